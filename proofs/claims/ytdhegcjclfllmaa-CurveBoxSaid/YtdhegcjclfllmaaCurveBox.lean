/- The law CurveBox: what a curve is cut into, and its points, lie within the box of its four points. For all inputs. -/
import Derived.Test.YtdhegcjclfllmaaCurP
import Derived.Test.YtdhegcjclfllmaaFlatC
import Derived.Test.YtdhegcjclfllmaaWm1
import Derived.Test.YtdhegcjclfllmaaRows
import Derived.ProofKit
import Derived.OpenShut
import Derived.ShutString
import Derived.ChangeOld
import Derived.SizedLaws
import Derived.Test.YtdhegcjclfllmaaPCx21
namespace Go.Proofs.Ytdhegcjclfllmaa
open Go Go.RowKit
set_option maxRecDepth 100000
set_option linter.unusedVariables false
set_option linter.unusedSimpArgs false
namespace PC
open Go.Proofs.YtdhegcjclfllmaaW.PrintWords Go.Proofs.YtdhegcjclfllmaaW.PrintLast Go.Proofs.YtdhegcjclfllmaaW.PrintMore
theorem box_l0 (xs : List S23) (l h l2 h2 : Int) (hx : ∀ p ∈ xs, (l ≤ p.f0 ∧ p.f0 ≤ h) ∧ l2 ≤ p.f1 ∧ p.f1 ≤ h2) (hn : xs.length ≤ 100) : ∀ (m i k : Nat), i + m = xs.length → m < k → pointillistlaw11_CurveBox.l0 k l h l2 h2 xs (xs.length : Int) (i : Int) = some true := by
  intro m
  induction m with
  | zero =>
    intro i k hi hk
    obtain ⟨k, rfl⟩ : ∃ j, k = j + 1 := ⟨k - 1, by omega⟩
    rw [pointillistlaw11_CurveBox.l0, if_neg (by omega)]
  | succ m ih =>
    intro i k hi hk
    obtain ⟨k, rfl⟩ : ∃ j, k = j + 1 := ⟨k - 1, by omega⟩
    have hl : i < xs.length := by omega
    have hr : rd_T23 xs (i : Int) = xs[i] := by simp [rd_T23, hl]
    have hp := hx xs[i] (List.getElem_mem hl)
    rw [pointillistlaw11_CurveBox.l0, if_pos (by omega), if_pos (by omega), if_pos (by omega), hr, if_neg (by omega), if_neg (by omega), if_neg (by omega), if_neg (by omega), w64 (by omega) (by omega)]
    exact ih (i + 1) k (by omega) (by omega)
/-- Does x lie from l to h? -/
def Bx (l h x : Int) : Prop := l ≤ x ∧ x ≤ h
theorem mid_bx {l h a b : Int} (ha : Bx l h a) (hb : Bx l h b) : Bx l h (mid a b) := by unfold Bx mid at *; omega
theorem step_bx {l h a b t : Int} (h0 : 0 ≤ t) (h1 : t ≤ 65536) (ha : Bx l h a) (hb : Bx l h b) : Bx l h (step a b t) := by
  obtain ⟨h2, h3⟩ := step_in (a := a) (b := b) h0 h1
  unfold Bx at *; omega
theorem at_bx {l h a b c d : Int} (t : Int) (ha : Bx l h a) (hb : Bx l h b) (hc : Bx l h c) (hd : Bx l h d) : Bx l h (at1 a b c d (clip t)) := by
  obtain ⟨h0, h1⟩ := clip_in t
  unfold at1
  have s : ∀ {a b : Int}, Bx l h a → Bx l h b → Bx l h (step a b (clip t)) := fun ha hb => step_bx h0 h1 ha hb
  exact s (s (s ha hb) (s hb hc)) (s (s hb hc) (s hc hd))
theorem four_bx (a b c d : Int) : ∃ l h, mn (mn (mn a b) c) d = l ∧ mx (mx (mx a b) c) d = h ∧ Bx l h a ∧ Bx l h b ∧ Bx l h c ∧ Bx l h d := by
  have h1 : ∀ x y : Int, mn x y ≤ x ∧ mn x y ≤ y := fun x y => by unfold mn; split <;> omega
  have h2 : ∀ x y : Int, x ≤ mx x y ∧ y ≤ mx x y := fun x y => by unfold mx; split <;> omega
  have p1 := h1 a b; have p2 := h1 (mn a b) c; have p3 := h1 (mn (mn a b) c) d
  have q1 := h2 a b; have q2 := h2 (mx a b) c; have q3 := h2 (mx (mx a b) c) d
  refine ⟨_, _, rfl, rfl, ?_, ?_, ?_, ?_⟩ <;> unfold Bx <;> omega
theorem curvebox (a b c d e f g h t : Int) : pointillistlaw11_CurveBox.f 10 a b c d e f g h t = some true := by
  unfold pointillistlaw11_CurveBox.f
  rw [wakes, right_f]
  simp only [Option.bind_some, if_true, decide_eq_true_eq]
  by_cases hr : R40 a ∧ R40 b ∧ R40 c ∧ R40 d ∧ R40 e ∧ R40 f ∧ R40 g ∧ R40 h
  · rw [if_pos hr]
    have hA : curve_At.f a b c d e f g h t = some (at1 a c e g (clip t), at1 b d f h (clip t)) := if_pos hr
    rw [hA]
    simp only [curve_Cut.f, if_pos hr, Option.bind_some]
    obtain ⟨l, u, e1, e2, xa, xc, xe, xg⟩ := four_bx a c e g
    obtain ⟨l2, u2, e3, e4, yb, yd, yf, yh⟩ := four_bx b d f h
    rw [e1, e2, e3, e4]
    have m0 := mid_bx xa xc; have m1 := mid_bx xc xe; have m2 := mid_bx xe xg
    have n0 := mid_bx yb yd; have n1 := mid_bx yd yf; have n2 := mid_bx yf yh
    refine box_l0 _ l u l2 u2 ?_ (by simp) 6 0 10 rfl (by decide)
    intro p hp
    simp only [List.mem_cons, List.not_mem_nil, or_false] at hp
    rcases hp with rfl | rfl | rfl | rfl | rfl | rfl
    · exact ⟨m0, n0⟩
    · exact ⟨mid_bx m0 m1, mid_bx n0 n1⟩
    · exact ⟨mid_bx (mid_bx m0 m1) (mid_bx m1 m2), mid_bx (mid_bx n0 n1) (mid_bx n1 n2)⟩
    · exact ⟨mid_bx m1 m2, mid_bx n1 n2⟩
    · exact ⟨m2, n2⟩
    · exact ⟨at_bx t xa xc xe xg, at_bx t yb yd yf yh⟩
  · rw [if_neg hr]
theorem curvebox_row (a b c d e f g h t : Int) (w : World) : Calls Try.prog 6 #[.agg #[.int .i64 a, .int .i64 b, .int .i64 c, .int .i64 d, .int .i64 e, .int .i64 f, .int .i64 g, .int .i64 h], .int .i64 t] w fun e w' => e = .returned (.bool true) ∧ Below w.heap.size w w' :=
  pointillistlaw11_CurveBox.calls 10 a b c d e f g h t true w (curvebox a b c d e f g h t)
end PC
namespace curveBox
open Go.ChangeShapes Go.WideShapes Go.ChangeAt Go.RowKit
open Go.ChangeMaps (open_string shut_string)
theorem own : ownKnob Try.prog.godebug = none := by kernel_rfl
theorem laidOut : laidOutB Try.prog = true := by kernel_rfl
set_option maxRecDepth 100000 in
theorem lifted (os : Os) (started : os.Started) (H : Type) (enc : TypeId × Value → H) :
    ReturnsInHanded {} Try.checked os 6 .any (Rows.curveBoxSpec.pre6 enc Try.prog Try.f6 Rows.curveBoxRow.domain false) (Rows.curveBoxSpec.post enc Try.prog Try.f6 false true false false) := by
  refine returnsInHanded_of_change_sized (C := Try.checked) own started (by kernel_rfl) Try.func6
    (ChangeSpec.witness6 (enc := enc) (C := Try.checked) false ⟨#[], #[.agg #[.int .i64 0, .int .i64 0, .int .i64 0, .int .i64 0, .int .i64 0, .int .i64 0, .int .i64 0, .int .i64 0], .int .i64 0], []⟩ 8 (by kernel_rfl) (by kernel_rfl) (by kernel_rfl) (by kernel_rfl)) ?_
  intro W base args ds gs before hval0 hW hcnd hsz0 _
  have hval : ∀ (j : Nat) t v, Try.f6.params[j]? = some t → args[j]? = some v → Value.okWide Try.prog W .any base t v := hval0
  have hW' := hW
  obtain ⟨p, q, hA0, hV, rfl, hfz, hnd⟩ := hW
  have hA : DataW.TrodAll enc Try.prog W 0 (fun _ => true) true Try.f6.params.toList args.toList ds p := hA0
  have hlt : ∀ x ∈ p, x.block < W.heap.size := fun x hx => by simpa using hW'.lt x (by simp [hx])
  have hready : ∀ t ∈ Try.f6.params.toList, Try.prog.readableRec t = true ∧ t < Try.prog.types.size := by
    rw [Try.params6]
    intro t ht
    simp only [List.mem_cons, List.not_mem_nil, or_false] at ht
    rcases ht with rfl | rfl <;> exact ⟨by kernel_rfl, of_decide_eq_true (by kernel_rfl)⟩
  have hAk := hA
  rw [Try.params6] at hA hval
  obtain ⟨v0, vs0, d0, ds0, p0, q0, hargs, rfl, rfl, h0, r0⟩ := trodAll_cons hA
  obtain ⟨v1, vs1, d1, ds1, p1, q1, rfl, rfl, rfl, h1, r1⟩ := trodAll_cons r0
  obtain ⟨rfl, rfl, rfl⟩ := trodAll_nil r1
  obtain rfl : args = #[v0, v1] := by cases args; simp_all
  obtain ⟨rfl, rfl⟩ := trodVars_none hV
  obtain ⟨c0, m0, rfl, i0⟩ := Open.Flat.open_agg flatCurve (.inl ⟨_, Try.underlying27⟩) (hval 0 27 v0 rfl rfl) h0
  obtain ⟨n0_0, n0_1, n0_2, n0_3, n0_4, n0_5, n0_6, n0_7, rfl, x0_0, x0_1, x0_2, x0_3, x0_4, x0_5, x0_6, x0_7⟩ := i0.of8
  obtain ⟨a1, rfl, rfl, rfl, w1⟩ := open_int Try.underlying2 (hval 1 2 v1 rfl rfl) h1
  clear hA0 hval0 hsz0
  refine (PC.curvebox_row n0_0 n0_1 n0_2 n0_3 n0_4 n0_5 n0_6 n0_7 a1 W).mono fun e W' ⟨he, bel⟩ => ?_
  subst he
  exact ⟨_, rfl, _, _, _, [], _, [], hW', trodAll_mk1 (shut_bool Try.underlying4 _), Open.trodAll_below laidOut bel hready hAk hlt, rfl, bel.frame _, fun h => by cases h⟩
theorem over : Rows.curveBoxRow.holds Try.pinned (OpenSpec.ofChange Rows.curveBoxSpec) :=
  OpenClaim.holds_of_wide 6 Try.f6 rfl rfl rfl rfl rfl rfl rfl ⟨rfl, rfl, rfl, rfl, rfl⟩ rfl rfl rfl rfl rfl (by kernel_rfl) Try.func6 (by kernel_rfl)
    (of_decide_eq_true (by kernel_rfl)) (by unfold Func.isWrapper; first | (rw [if_pos (by decide +kernel)]; kernel_rfl) | (rw [if_neg (by decide +kernel)]; exact ⟨rfl, rfl⟩))
    (fun os started H enc _ => lifted os started H enc)
theorem proved : Rows.CurveBoxSaid := over
end curveBox
/-- The row, for the claim. -/
theorem curveBox_holds : Rows.CurveBoxSaid := curveBox.proved
end Go.Proofs.Ytdhegcjclfllmaa
