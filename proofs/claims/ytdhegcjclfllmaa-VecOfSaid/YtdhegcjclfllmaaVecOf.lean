/- The law VecOf: a point's direction is the document's, or there is none; it is right, as near to 1 as 2; any point is right, or not. For all inputs. -/
import Derived.Test.YtdhegcjclfllmaaVecW
import Derived.Test.YtdhegcjclfllmaaFlatP
import Derived.Test.YtdhegcjclfllmaaWm1
import Derived.Test.YtdhegcjclfllmaaRows
import Derived.ProofKit
import Derived.OpenShut
import Derived.ShutString
import Derived.ChangeOld
import Derived.SizedLaws
import Derived.Test.YtdhegcjclfllmaaPEx14
namespace Go.Proofs.Ytdhegcjclfllmaa
open Go Go.RowKit
set_option linter.unusedVariables false
set_option linter.unusedSimpArgs false
namespace Vec
open Go.Proofs.Ytdhegcjclfllmaa.PE Go.Proofs.Ytdhegcjclfllmaa.VecN Go.Proofs.YtdhegcjclfllmaaW.PrintWords Go.Proofs.YtdhegcjclfllmaaW.PrintLast Go.Proofs.YtdhegcjclfllmaaW.PrintMore
theorem vecof (x y : Int) (hx : I64 x) (hy : I64 y) : ∃ k, pointillistlaw09_VecOf.f k x y = some true := by
  refine ⟨70, ?_⟩
  obtain ⟨r, hr, _⟩ := right_f x y
  unfold pointillistlaw09_VecOf.f pointillistref09_Of.f
  rw [wakes, vof_f, if_pos ⟨hx, hy⟩, vright_f x y hx hy, hr]
  simp only [Option.bind_some, if_true, BEq.rfl, Bool.not_true, Bool.or_self, bne_self_eq_false, Bool.false_eq_true, if_false]
  simp only [pointillistlaw09_VecOf.j0, Bool.false_eq_true, if_false]
  by_cases ho : out x y
  · have e3 : ofB x y = false := by unfold ofB; rw [decide_eq_true ho]; rfl
    rw [e3]
    unfold ofX ofY
    rw [if_pos ho, if_pos ho]; rfl
  · have e3 : ofB x y = true := by unfold ofB; rw [decide_eq_false ho]; rfl
    have WD := (VecN.Way.start ho).done
    have e1 : ofX x y = Wide.mulDivV (big x y).1 1073741824 (len (big x y).1 (big x y).2) := if_neg ho
    have e2 : ofY x y = Wide.mulDivV (big x y).2 1073741824 (len (big x y).1 (big x y).2) := if_neg ho
    rw [e3, e1, e2, if_pos rfl]
    clear e1 e2 e3 hr
    generalize (big x y).1 = X at *
    generalize (big x y).2 = Y at *
    obtain ⟨hs, hX, hY⟩ := WD
    obtain ⟨_, _, hI, l0, l1⟩ := len_in hX hY
    have hx1 := abs_le hI (X := X) (by have := sq_nn Y; omega)
    have hy1 := abs_le hI (X := Y) (by have := sq_nn X; omega)
    have hL : 1152921504606846976 ≤ len X Y := by unfold small at hs; omega
    generalize len X Y = L at *
    obtain ⟨p, ep, hp, p1, p2⟩ := part_in (X := X) (L := L) (by omega) hx1.1 hx1.2
    obtain ⟨q, eq, hq, q1, q2⟩ := part_in (X := Y) (L := L) (by omega) hy1.1 hy1.2
    rw [ep, eq]
    obtain ⟨n1, n2⟩ := near_one hI hL hx1 hy1 p1 p2 q1 q2
    obtain ⟨r2, hr2, hq2⟩ := right_f p q
    have ht : r2 = true := hq2.2 ⟨by omega, by omega, by omega, by omega, by omega, by omega⟩
    subst ht
    obtain ⟨s1, s2⟩ := sq_in (a := p) (by omega) (by omega)
    obtain ⟨s3, s4⟩ := sq_in (a := q) (by omega) (by omega)
    rw [vright_f' p q (by unfold I64; omega) (by unfold I64; omega), hr2]
    simp only [Option.bind_some, if_true]
    rw [w64 (x := p * p) (by omega) (by omega), w64 (x := q * q) (by omega) (by omega), w64 (x := p * p + q * q) (by omega) (by omega), if_pos (by omega), decide_eq_true (by omega)]
theorem vecof_row (x y : Int) (hx : I64 x) (hy : I64 y) (w : World) : Calls Try.prog 8 #[.int .i64 x, .int .i64 y] w fun e w' => e = .returned (.bool true) ∧ Below w.heap.size w w' := by
  obtain ⟨k, hk⟩ := vecof x y hx hy
  exact pointillistlaw09_VecOf.calls k x y true w hk
end Vec
namespace vecOf
open Go.ChangeShapes Go.WideShapes Go.ChangeAt Go.RowKit
open Go.ChangeMaps (open_string shut_string)
theorem own : ownKnob Try.prog.godebug = none := by kernel_rfl
theorem laidOut : laidOutB Try.prog = true := by kernel_rfl
set_option maxRecDepth 100000 in
theorem lifted (os : Os) (started : os.Started) (H : Type) (enc : TypeId × Value → H) :
    ReturnsInHanded {} Try.checked os 8 .any (Rows.vecOfSpec.pre6 enc Try.prog Try.f8 Rows.vecOfRow.domain false) (Rows.vecOfSpec.post enc Try.prog Try.f8 false true false false) := by
  refine returnsInHanded_of_change_sized (C := Try.checked) own started (by kernel_rfl) Try.func8
    (ChangeSpec.witness6 (enc := enc) (C := Try.checked) false ⟨#[], #[.int .i64 0, .int .i64 0], []⟩ 8 (by kernel_rfl) (by kernel_rfl) (by kernel_rfl) (by kernel_rfl)) ?_
  intro W base args ds gs before hval0 hW hcnd hsz0 _
  have hval : ∀ (j : Nat) t v, Try.f8.params[j]? = some t → args[j]? = some v → Value.okWide Try.prog W .any base t v := hval0
  have hW' := hW
  obtain ⟨p, q, hA0, hV, rfl, hfz, hnd⟩ := hW
  have hA : DataW.TrodAll enc Try.prog W 0 (fun _ => true) true Try.f8.params.toList args.toList ds p := hA0
  have hlt : ∀ x ∈ p, x.block < W.heap.size := fun x hx => by simpa using hW'.lt x (by simp [hx])
  have hready : ∀ t ∈ Try.f8.params.toList, Try.prog.readableRec t = true ∧ t < Try.prog.types.size := by
    rw [Try.params8]
    intro t ht
    simp only [List.mem_cons, List.not_mem_nil, or_false] at ht
    rcases ht with rfl | rfl <;> exact ⟨by kernel_rfl, of_decide_eq_true (by kernel_rfl)⟩
  have hAk := hA
  rw [Try.params8] at hA hval
  obtain ⟨v0, vs0, d0, ds0, p0, q0, hargs, rfl, rfl, h0, r0⟩ := trodAll_cons hA
  obtain ⟨v1, vs1, d1, ds1, p1, q1, rfl, rfl, rfl, h1, r1⟩ := trodAll_cons r0
  obtain ⟨rfl, rfl, rfl⟩ := trodAll_nil r1
  obtain rfl : args = #[v0, v1] := by cases args; simp_all
  obtain ⟨rfl, rfl⟩ := trodVars_none hV
  obtain ⟨a0, rfl, rfl, rfl, w0⟩ := open_int Try.underlying2 (hval 0 2 v0 rfl rfl) h0
  obtain ⟨a1, rfl, rfl, rfl, w1⟩ := open_int Try.underlying2 (hval 1 2 v1 rfl rfl) h1
  clear hA0 hval0 hsz0
  refine (Vec.vecof_row a0 a1 (Num.wf_i64 w0) (Num.wf_i64 w1) W).mono fun e W' ⟨he, bel⟩ => ?_
  subst he
  exact ⟨_, rfl, _, _, _, [], _, [], hW', trodAll_mk1 (shut_bool Try.underlying4 _), Open.trodAll_below laidOut bel hready hAk hlt, rfl, bel.frame _, fun h => by cases h⟩
theorem over : Rows.vecOfRow.holds Try.pinned (OpenSpec.ofChange Rows.vecOfSpec) :=
  OpenClaim.holds_of_wide 8 Try.f8 rfl rfl rfl rfl rfl rfl rfl ⟨rfl, rfl, rfl, rfl, rfl⟩ rfl rfl rfl rfl rfl (by kernel_rfl) Try.func8 (by kernel_rfl)
    (of_decide_eq_true (by kernel_rfl)) (by unfold Func.isWrapper; first | (rw [if_pos (by decide +kernel)]; kernel_rfl) | (rw [if_neg (by decide +kernel)]; exact ⟨rfl, rfl⟩))
    (fun os started H enc _ => lifted os started H enc)
theorem proved : Rows.VecOfSaid := over
end vecOf
/-- The row, for the claim. -/
theorem vecOf_holds : Rows.VecOfSaid := vecOf.proved
end Go.Proofs.Ytdhegcjclfllmaa
