/- The law VecAngles: the squares of Dot and Cross of two directions come to 1 together, as near as 2^-20; turned by one number of quarters, both are as before. For all inputs. -/
import Derived.Test.YtdhegcjclfllmaaVecC
import Derived.Test.YtdhegcjclfllmaaFlatP
import Derived.Test.YtdhegcjclfllmaaWm1
import Derived.Test.YtdhegcjclfllmaaRows
import Derived.ProofKit
import Derived.OpenShut
import Derived.ShutString
import Derived.ChangeOld
import Derived.SizedLaws
import Derived.Test.YtdhegcjclfllmaaPEx16
namespace Go.Proofs.Ytdhegcjclfllmaa
open Go Go.RowKit
set_option linter.unusedVariables false
set_option linter.unusedSimpArgs false
namespace Vec
open Go.Proofs.Ytdhegcjclfllmaa.PE Go.Proofs.YtdhegcjclfllmaaW.PrintWords Go.Proofs.YtdhegcjclfllmaaW.PrintLast Go.Proofs.YtdhegcjclfllmaaW.PrintMore
theorem turn_f {a b q : Int} (h : One a b) : vec_Turn.f a b q = some (VecT.turnX (VecT.quart q) a b, VecT.turnY (VecT.quart q) a b) := by
  have := h.a0; have := h.a1; have := h.b0; have := h.b1
  unfold vec_Turn.f; rw [if_pos (by omega)]
theorem sq_nn' (x : Int) : 0 ≤ x * x := by
  rcases Int.le_total 0 x with h | h
  · exact Int.mul_nonneg h h
  · exact Int.mul_nonneg_of_nonpos_of_nonpos h h
theorem sq_small {t : Int} (h : t * t ≤ 1152922604118474752) : -1073742336 ≤ t ∧ t ≤ 1073742336 := by
  constructor
  · by_cases hx : -1073742336 ≤ t
    · exact hx
    · have : (1073742337 : Int) * 1073742337 ≤ (-t) * (-t) := Int.mul_le_mul (by omega) (by omega) (by decide) (by omega)
      rw [Int.neg_mul_neg] at this; omega
  · by_cases hx : t ≤ 1073742336
    · exact hx
    · have : (1073742337 : Int) * 1073742337 ≤ t * t := Int.mul_le_mul (by omega) (by omega) (by decide) (by omega)
      omega
/-- Turned by as many quarters, both products are as before. -/
theorem turned {a b c d m : Int} (H : One a b) (T : One c d) (hm : m = 0 ∨ m = 1 ∨ m = 2 ∨ m = 3) :
    vec_Dot.f (VecT.turnX m a b) (VecT.turnY m a b) (VecT.turnX m c d) (VecT.turnY m c d) = some (quo (a * c + b * d)) ∧ vec_Cross.f (VecT.turnX m a b) (VecT.turnY m a b) (VecT.turnX m c d) (VecT.turnY m c d) = some (quo (a * d - b * c)) := by
  have ha0 := H.a0
  have ha1 := H.a1
  have hb0 := H.b0
  have hb1 := H.b1
  have hc0 := T.a0
  have hc1 := T.a1
  have hd0 := T.b0
  have hd1 := T.b1
  have i : ∀ x : Int, -1073741888 ≤ x → x ≤ 1073741888 → I64 x := fun x h0 h1 => by unfold I64; omega
  rcases hm with rfl | rfl | rfl | rfl
  · exact ⟨dot_q (i _ ha0 ha1) (i _ hb0 hb1) (i _ hc0 hc1) (i _ hd0 hd1), cross_q (i _ ha0 ha1) (by show _ ≤ b ∧ b ≤ _; omega) (i _ hc0 hc1) (i _ hd0 hd1)⟩
  · constructor
    · refine (dot_q (a := -b) (b := a) (c := -d) (d := c) (i _ (by omega) (by omega)) (i _ ha0 ha1) (i _ (by omega) (by omega)) (i _ hc0 hc1)).trans ?_
      rw [show -b * -d + a * c = a * c + b * d by grind]
    · refine (cross_q (a := -b) (b := a) (c := -d) (d := c) (i _ (by omega) (by omega)) (by omega) (i _ (by omega) (by omega)) (i _ hc0 hc1)).trans ?_
      rw [show -b * c - a * -d = a * d - b * c by grind]
  · constructor
    · refine (dot_q (a := -a) (b := -b) (c := -c) (d := -d) (i _ (by omega) (by omega)) (i _ (by omega) (by omega)) (i _ (by omega) (by omega)) (i _ (by omega) (by omega))).trans ?_
      rw [show -a * -c + -b * -d = a * c + b * d by grind]
    · refine (cross_q (a := -a) (b := -b) (c := -c) (d := -d) (i _ (by omega) (by omega)) (by omega) (i _ (by omega) (by omega)) (i _ (by omega) (by omega))).trans ?_
      rw [show -a * -d - -b * -c = a * d - b * c by grind]
  · constructor
    · refine (dot_q (a := b) (b := -a) (c := d) (d := -c) (i _ hb0 hb1) (i _ (by omega) (by omega)) (i _ hd0 hd1) (i _ (by omega) (by omega))).trans ?_
      rw [show b * d + -a * -c = a * c + b * d by grind]
    · refine (cross_q (a := b) (b := -a) (c := d) (d := -c) (i _ hb0 hb1) (by omega) (i _ hd0 hd1) (i _ (by omega) (by omega))).trans ?_
      rw [show b * -c - -a * d = a * d - b * c by grind]
theorem vecangles (a b c d q : Int) : ∃ k, pointillistlaw09_VecAngles.f k a b c d q = some true := by
  refine ⟨70, ?_⟩
  obtain ⟨r, hr, h1⟩ := right_f a b
  obtain ⟨s, hs, h2⟩ := right_f c d
  unfold pointillistlaw09_VecAngles.f
  rw [wakes, hr, hs]
  simp only [Option.bind_some, if_true]
  cases r with
  | false => rfl
  | true =>
    cases s with
    | false => rfl
    | true =>
      have H := h1.1 rfl
      have T := h2.1 rfl
      rw [if_pos rfl]
      simp only [pointillistlaw09_VecAngles.j0, Bool.not_true, Bool.false_eq_true, if_false]
      obtain ⟨z1, z2⟩ := turned (m := 0) H T (Or.inl rfl)
      obtain ⟨y1, y2⟩ := turned (m := VecT.quart (wrap64 q)) H T (VecT.quart_in _)
      change vec_Dot.f a b c d = _ at z1
      change vec_Cross.f a b c d = _ at z2
      rw [z1, z2, turn_f H, turn_f T]
      simp only [Option.bind_some]
      rw [y1, y2]
      obtain ⟨t, u, et, eu, c0, c1⟩ := circle H T
      rw [et, eu]
      have st := sq_nn' t
      have su := sq_nn' u
      simp only [Option.bind_some]
      rw [VecT.w64 (x := t * t) (by omega) (by omega), VecT.w64 (x := u * u) (by omega) (by omega), VecT.w64 (x := t * t + u * u) (by omega) (by omega), VecT.w64 (x := t * t + u * u - 1152921504606846976) (by omega) (by omega), if_pos (by omega), if_pos (by omega)]
      simp
theorem vecangles_row (a b c d q : Int) (w : World) : Calls Try.prog 10 #[.agg #[.int .i64 a, .int .i64 b], .agg #[.int .i64 c, .int .i64 d], .int .u8 q] w fun e w' => e = .returned (.bool true) ∧ Below w.heap.size w w' := by
  obtain ⟨k, hk⟩ := vecangles a b c d q
  exact pointillistlaw09_VecAngles.calls k a b c d q true w hk
end Vec
namespace vecAngles
open Go.ChangeShapes Go.WideShapes Go.ChangeAt Go.RowKit
open Go.ChangeMaps (open_string shut_string)
theorem own : ownKnob Try.prog.godebug = none := by kernel_rfl
theorem laidOut : laidOutB Try.prog = true := by kernel_rfl
set_option maxRecDepth 100000 in
theorem lifted (os : Os) (started : os.Started) (H : Type) (enc : TypeId × Value → H) :
    ReturnsInHanded {} Try.checked os 10 .any (Rows.vecAnglesSpec.pre6 enc Try.prog Try.f10 Rows.vecAnglesRow.domain false) (Rows.vecAnglesSpec.post enc Try.prog Try.f10 false true false false) := by
  refine returnsInHanded_of_change_sized (C := Try.checked) own started (by kernel_rfl) Try.func10
    (ChangeSpec.witness6 (enc := enc) (C := Try.checked) false ⟨#[], #[.agg #[.int .i64 0, .int .i64 0], .agg #[.int .i64 0, .int .i64 0], .int .u8 0], []⟩ 8 (by kernel_rfl) (by kernel_rfl) (by kernel_rfl) (by kernel_rfl)) ?_
  intro W base args ds gs before hval0 hW hcnd hsz0 _
  have hval : ∀ (j : Nat) t v, Try.f10.params[j]? = some t → args[j]? = some v → Value.okWide Try.prog W .any base t v := hval0
  have hW' := hW
  obtain ⟨p, q, hA0, hV, rfl, hfz, hnd⟩ := hW
  have hA : DataW.TrodAll enc Try.prog W 0 (fun _ => true) true Try.f10.params.toList args.toList ds p := hA0
  have hlt : ∀ x ∈ p, x.block < W.heap.size := fun x hx => by simpa using hW'.lt x (by simp [hx])
  have hready : ∀ t ∈ Try.f10.params.toList, Try.prog.readableRec t = true ∧ t < Try.prog.types.size := by
    rw [Try.params10]
    intro t ht
    simp only [List.mem_cons, List.not_mem_nil, or_false] at ht
    rcases ht with rfl | rfl | rfl <;> exact ⟨by kernel_rfl, of_decide_eq_true (by kernel_rfl)⟩
  have hAk := hA
  rw [Try.params10] at hA hval
  obtain ⟨v0, vs0, d0, ds0, p0, q0, hargs, rfl, rfl, h0, r0⟩ := trodAll_cons hA
  obtain ⟨v1, vs1, d1, ds1, p1, q1, rfl, rfl, rfl, h1, r1⟩ := trodAll_cons r0
  obtain ⟨v2, vs2, d2, ds2, p2, q2, rfl, rfl, rfl, h2, r2⟩ := trodAll_cons r1
  obtain ⟨rfl, rfl, rfl⟩ := trodAll_nil r2
  obtain rfl : args = #[v0, v1, v2] := by cases args; simp_all
  obtain ⟨rfl, rfl⟩ := trodVars_none hV
  obtain ⟨c0, m0, rfl, i0⟩ := Open.Flat.open_agg flatPoint (.inl ⟨_, Try.underlying23⟩) (hval 0 23 v0 rfl rfl) h0
  obtain ⟨n0_0, n0_1, rfl, x0_0, x0_1⟩ := i0.of2
  obtain ⟨c1, m1, rfl, i1⟩ := Open.Flat.open_agg flatPoint (.inl ⟨_, Try.underlying23⟩) (hval 1 23 v1 rfl rfl) h1
  obtain ⟨n1_0, n1_1, rfl, x1_0, x1_1⟩ := i1.of2
  obtain ⟨a2, rfl, rfl, rfl, w2⟩ := open_int Try.underlying5 (hval 2 5 v2 rfl rfl) h2
  clear hA0 hval0 hsz0
  refine (Vec.vecangles_row n0_0 n0_1 n1_0 n1_1 a2 W).mono fun e W' ⟨he, bel⟩ => ?_
  subst he
  exact ⟨_, rfl, _, _, _, [], _, [], hW', trodAll_mk1 (shut_bool Try.underlying4 _), Open.trodAll_below laidOut bel hready hAk hlt, rfl, bel.frame _, fun h => by cases h⟩
theorem over : Rows.vecAnglesRow.holds Try.pinned (OpenSpec.ofChange Rows.vecAnglesSpec) :=
  OpenClaim.holds_of_wide 10 Try.f10 rfl rfl rfl rfl rfl rfl rfl ⟨rfl, rfl, rfl, rfl, rfl⟩ rfl rfl rfl rfl rfl (by kernel_rfl) Try.func10 (by kernel_rfl)
    (of_decide_eq_true (by kernel_rfl)) (by unfold Func.isWrapper; first | (rw [if_pos (by decide +kernel)]; kernel_rfl) | (rw [if_neg (by decide +kernel)]; exact ⟨rfl, rfl⟩))
    (fun os started H enc _ => lifted os started H enc)
theorem proved : Rows.VecAnglesSaid := over
end vecAngles
/-- The row, for the claim. -/
theorem vecAngles_holds : Rows.VecAnglesSaid := vecAngles.proved
end Go.Proofs.Ytdhegcjclfllmaa
