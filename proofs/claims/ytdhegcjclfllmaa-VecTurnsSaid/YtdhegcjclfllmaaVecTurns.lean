/- The law VecTurns: quarters turn any direction as the document says; four are none; Dot with itself turned by one is 0, and Cross is 1, as near as it is right. For all inputs. -/
import Derived.Test.YtdhegcjclfllmaaVecL
import Derived.Test.YtdhegcjclfllmaaFlatP
import Derived.Test.YtdhegcjclfllmaaWm1
import Derived.Test.YtdhegcjclfllmaaRows
import Derived.ProofKit
import Derived.OpenShut
import Derived.ShutString
import Derived.ChangeOld
import Derived.SizedLaws
import Derived.Test.YtdhegcjclfllmaaPEx15
namespace Go.Proofs.Ytdhegcjclfllmaa
open Go Go.RowKit
set_option linter.unusedVariables false
set_option linter.unusedSimpArgs false
namespace Vec
open Go.Proofs.Ytdhegcjclfllmaa.PE Go.Proofs.YtdhegcjclfllmaaW.PrintWords Go.Proofs.YtdhegcjclfllmaaW.PrintLast Go.Proofs.YtdhegcjclfllmaaW.PrintMore
theorem turn_f {a b q : Int} (h : One a b) : vec_Turn.f a b q = some (VecT.turnX (VecT.quart q) a b, VecT.turnY (VecT.quart q) a b) := by
  have := h.a0; have := h.a1; have := h.b0; have := h.b1
  unfold vec_Turn.f; rw [if_pos (by omega)]
theorem One.turn {a b : Int} (h : One a b) : One (-b) a := by
  have := h.a0; have := h.a1; have := h.b0; have := h.b1; have := h.lo; have := h.hi
  refine ⟨by omega, by omega, by omega, by omega, ?_, ?_⟩ <;> rw [Int.neg_mul_neg] <;> omega
theorem rturn_f {a b q : Int} (h : One a b) : pointillistref09_Turn.f 70 a b q = some (VecT.turnX (VecT.quart q) a b, VecT.turnY (VecT.quart q) a b) := by
  have := h.a0; have := h.a1; have := h.b0; have := h.b1
  have h1 : -4 < q.tmod 4 ∧ q.tmod 4 < 4 := ⟨by have := Int.lt_tmod_of_pos q (b := 4) (by decide); omega, Int.tmod_lt_of_pos q (by decide)⟩
  have ea : wrap64 (-a) = -a := w64 (by omega) (by omega)
  have eb : wrap64 (-b) = -b := w64 (by omega) (by omega)
  have ec : wrap64 (- -a) = a := by rw [w64 (by omega) (by omega)]; omega
  have ee : wrap64 a = a := w64 (by omega) (by omega)
  have ef : wrap64 b = b := w64 (by omega) (by omega)
  have ed : wrap64 (- -b) = b := by rw [w64 (by omega) (by omega)]; omega
  unfold pointillistref09_Turn.f VecT.quart
  generalize q.tmod 4 = t at *
  have ht : t = -3 ∨ t = -2 ∨ t = -1 ∨ t = 0 ∨ t = 1 ∨ t = 2 ∨ t = 3 := by omega
  have k1 : wrap64 1 = 1 := w64 (by decide) (by decide)
  have k2 : wrap64 2 = 2 := w64 (by decide) (by decide)
  have k3 : wrap64 3 = 3 := w64 (by decide) (by decide)
  have k4 : wrap64 (-1) = -1 := w64 (by decide) (by decide)
  have k5 : wrap64 (-2) = -2 := w64 (by decide) (by decide)
  have k6 : wrap64 (-3) = -3 := w64 (by decide) (by decide)
  rcases ht with rfl | rfl | rfl | rfl | rfl | rfl | rfl <;> simp [pointillistref09_Turn.l0, pointillistref09_Turn.l1, VecT.turnX, VecT.turnY, ea, eb, ec, ed, ee, ef, k1, k2, k3, k4, k5, k6]
theorem vecturns (a b q : Int) : ∃ k, pointillistlaw09_VecTurns.f k a b q = some true := by
  refine ⟨70, ?_⟩
  obtain ⟨r, hr, h1⟩ := right_f a b
  unfold pointillistlaw09_VecTurns.f
  rw [wakes, hr]
  simp only [Option.bind_some, if_true]
  cases r with
  | false => rfl
  | true =>
    have H := h1.1 rfl
    have T := H.turn
    have T2 := T.turn
    have T3 := T2.turn
    obtain ⟨ha, hb⟩ := H.i64
    obtain ⟨hc, hd⟩ := T.i64
    have h0 := H.lo
    have h9 := H.hi
    rw [if_pos rfl, turn_f H, show VecT.quart 1 = 1 by decide]
    simp only [Option.bind_some, VecT.turnX, VecT.turnY, show ¬ (1 : Int) = 0 by decide, if_true, if_false]
    rw [cross_f ha hb hc hd, turn_f H, rturn_f H, vdot_f ha hb hc hd]
    simp only [Option.bind_some, BEq.rfl, Bool.and_self, if_true]
    rw [turn_f T, show VecT.quart 2 = 2 by decide]
    simp only [Option.bind_some, VecT.turnX, VecT.turnY, show ¬ (2 : Int) = 0 by decide, show ¬ (2 : Int) = 1 by decide, if_true, if_false]
    rw [turn_f T3, show VecT.quart 1 = 1 by decide]
    simp only [Option.bind_some, VecT.turnX, VecT.turnY, show ¬ (1 : Int) = 0 by decide, if_true, if_false, Int.neg_neg, BEq.rfl, Bool.and_self]
    have e0 : dot a b (-b) a = 0 := by
      unfold dot Wide.dotV Wide.fitV Wide.near
      rw [if_pos (by decide), show a * -b + b * a = 0 by rw [Int.mul_neg, Int.mul_comm b a]; omega]; decide
    have e1 : crs a b (-b) a = (2 * (a * a + b * b) + 1073741824) / 2147483648 := by
      have := H.b0
      have := H.b1
      unfold crs Wide.dotV Wide.fitV Wide.near
      rw [w64 (x := -b) (by omega) (by omega), if_pos (by decide), Int.neg_mul_neg, show (2 : Int) ^ (30 : Int).toNat = 1073741824 by decide, show (2 : Int) * 1073741824 = 2147483648 by decide, if_pos (by omega)]
    rw [e0, e1, if_pos rfl, if_pos (by omega), decide_eq_true (by omega)]
theorem vecturns_row (a b q : Int) (w : World) : Calls Try.prog 9 #[.agg #[.int .i64 a, .int .i64 b], .int .i64 q] w fun e w' => e = .returned (.bool true) ∧ Below w.heap.size w w' := by
  obtain ⟨k, hk⟩ := vecturns a b q
  exact pointillistlaw09_VecTurns.calls k a b q true w hk
end Vec
namespace vecTurns
open Go.ChangeShapes Go.WideShapes Go.ChangeAt Go.RowKit
open Go.ChangeMaps (open_string shut_string)
theorem own : ownKnob Try.prog.godebug = none := by kernel_rfl
theorem laidOut : laidOutB Try.prog = true := by kernel_rfl
set_option maxRecDepth 100000 in
theorem lifted (os : Os) (started : os.Started) (H : Type) (enc : TypeId × Value → H) :
    ReturnsInHanded {} Try.checked os 9 .any (Rows.vecTurnsSpec.pre6 enc Try.prog Try.f9 Rows.vecTurnsRow.domain false) (Rows.vecTurnsSpec.post enc Try.prog Try.f9 false true false false) := by
  refine returnsInHanded_of_change_sized (C := Try.checked) own started (by kernel_rfl) Try.func9
    (ChangeSpec.witness6 (enc := enc) (C := Try.checked) false ⟨#[], #[.agg #[.int .i64 0, .int .i64 0], .int .i64 0], []⟩ 8 (by kernel_rfl) (by kernel_rfl) (by kernel_rfl) (by kernel_rfl)) ?_
  intro W base args ds gs before hval0 hW hcnd hsz0 _
  have hval : ∀ (j : Nat) t v, Try.f9.params[j]? = some t → args[j]? = some v → Value.okWide Try.prog W .any base t v := hval0
  have hW' := hW
  obtain ⟨p, q, hA0, hV, rfl, hfz, hnd⟩ := hW
  have hA : DataW.TrodAll enc Try.prog W 0 (fun _ => true) true Try.f9.params.toList args.toList ds p := hA0
  have hlt : ∀ x ∈ p, x.block < W.heap.size := fun x hx => by simpa using hW'.lt x (by simp [hx])
  have hready : ∀ t ∈ Try.f9.params.toList, Try.prog.readableRec t = true ∧ t < Try.prog.types.size := by
    rw [Try.params9]
    intro t ht
    simp only [List.mem_cons, List.not_mem_nil, or_false] at ht
    rcases ht with rfl | rfl <;> exact ⟨by kernel_rfl, of_decide_eq_true (by kernel_rfl)⟩
  have hAk := hA
  rw [Try.params9] at hA hval
  obtain ⟨v0, vs0, d0, ds0, p0, q0, hargs, rfl, rfl, h0, r0⟩ := trodAll_cons hA
  obtain ⟨v1, vs1, d1, ds1, p1, q1, rfl, rfl, rfl, h1, r1⟩ := trodAll_cons r0
  obtain ⟨rfl, rfl, rfl⟩ := trodAll_nil r1
  obtain rfl : args = #[v0, v1] := by cases args; simp_all
  obtain ⟨rfl, rfl⟩ := trodVars_none hV
  obtain ⟨c0, m0, rfl, i0⟩ := Open.Flat.open_agg flatPoint (.inl ⟨_, Try.underlying23⟩) (hval 0 23 v0 rfl rfl) h0
  obtain ⟨n0_0, n0_1, rfl, x0_0, x0_1⟩ := i0.of2
  obtain ⟨a1, rfl, rfl, rfl, w1⟩ := open_int Try.underlying3 (hval 1 3 v1 rfl rfl) h1
  clear hA0 hval0 hsz0
  refine (Vec.vecturns_row n0_0 n0_1 a1 W).mono fun e W' ⟨he, bel⟩ => ?_
  subst he
  exact ⟨_, rfl, _, _, _, [], _, [], hW', trodAll_mk1 (shut_bool Try.underlying4 _), Open.trodAll_below laidOut bel hready hAk hlt, rfl, bel.frame _, fun h => by cases h⟩
theorem over : Rows.vecTurnsRow.holds Try.pinned (OpenSpec.ofChange Rows.vecTurnsSpec) :=
  OpenClaim.holds_of_wide 9 Try.f9 rfl rfl rfl rfl rfl rfl rfl ⟨rfl, rfl, rfl, rfl, rfl⟩ rfl rfl rfl rfl rfl (by kernel_rfl) Try.func9 (by kernel_rfl)
    (of_decide_eq_true (by kernel_rfl)) (by unfold Func.isWrapper; first | (rw [if_pos (by decide +kernel)]; kernel_rfl) | (rw [if_neg (by decide +kernel)]; exact ⟨rfl, rfl⟩))
    (fun os started H enc _ => lifted os started H enc)
theorem proved : Rows.VecTurnsSaid := over
end vecTurns
/-- The row, for the claim. -/
theorem vecTurns_holds : Rows.VecTurnsSaid := vecTurns.proved
end Go.Proofs.Ytdhegcjclfllmaa
