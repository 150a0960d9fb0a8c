/- The law VecPairs: of any two directions Dot, Cross, Half and Handle are the document's. For all inputs. -/
import Derived.Test.YtdhegcjclfllmaaVecL
import Derived.Test.YtdhegcjclfllmaaFlatP
import Derived.Test.YtdhegcjclfllmaaWm1
import Derived.Test.YtdhegcjclfllmaaRows
import Derived.ProofKit
import Derived.OpenShut
import Derived.ShutString
import Derived.ChangeOld
import Derived.SizedLaws
import Derived.Test.YtdhegcjclfllmaaPEx20
namespace Go.Proofs.Ytdhegcjclfllmaa
open Go Go.RowKit
set_option linter.unusedVariables false
set_option linter.unusedSimpArgs false
namespace Vec
open Go.Proofs.Ytdhegcjclfllmaa.PE Go.Proofs.YtdhegcjclfllmaaW.PrintWords Go.Proofs.YtdhegcjclfllmaaW.PrintLast Go.Proofs.YtdhegcjclfllmaaW.PrintMore
theorem vecpairs (a b c d : Int) : ∃ k, pointillistlaw09_VecPairs.f k a b c d = some true := by
  refine ⟨70, ?_⟩
  obtain ⟨r, hr, h1⟩ := right_f a b
  obtain ⟨s, hs, h2⟩ := right_f c d
  unfold pointillistlaw09_VecPairs.f
  rw [wakes, hr, hs]
  simp only [Option.bind_some, if_true]
  cases r with
  | false => rfl
  | true =>
    cases s with
    | false => rfl
    | true =>
      obtain ⟨ha, hb⟩ := (h1.1 rfl).i64
      obtain ⟨hc, hd⟩ := (h2.1 rfl).i64
      rw [if_pos rfl]
      simp only [pointillistlaw09_VecPairs.j0, Bool.not_true, Bool.false_eq_true, if_false]
      rw [vhalf_f ha hb hc hd, rhalf_f ha hb hc hd, vdot_f ha hb hc hd, rdot_f ha hb hc hd, cross_f ha hb hc hd, rcross_f ha hb hc hd, handle_f ha hb hc hd, rhandle_f ha hb hc hd]
      simp
theorem vecpairs_row (a b c d : Int) (w : World) : Calls Try.prog 12 #[.agg #[.int .i64 a, .int .i64 b], .agg #[.int .i64 c, .int .i64 d]] w fun e w' => e = .returned (.bool true) ∧ Below w.heap.size w w' := by
  obtain ⟨k, hk⟩ := vecpairs a b c d
  exact pointillistlaw09_VecPairs.calls k a b c d true w hk
end Vec
namespace vecPairs
open Go.ChangeShapes Go.WideShapes Go.ChangeAt Go.RowKit
open Go.ChangeMaps (open_string shut_string)
theorem own : ownKnob Try.prog.godebug = none := by kernel_rfl
theorem laidOut : laidOutB Try.prog = true := by kernel_rfl
set_option maxRecDepth 100000 in
theorem lifted (os : Os) (started : os.Started) (H : Type) (enc : TypeId × Value → H) :
    ReturnsInHanded {} Try.checked os 12 .any (Rows.vecPairsSpec.pre6 enc Try.prog Try.f12 Rows.vecPairsRow.domain false) (Rows.vecPairsSpec.post enc Try.prog Try.f12 false true false false) := by
  refine returnsInHanded_of_change_sized (C := Try.checked) own started (by kernel_rfl) Try.func12
    (ChangeSpec.witness6 (enc := enc) (C := Try.checked) false ⟨#[], #[.agg #[.int .i64 0, .int .i64 0], .agg #[.int .i64 0, .int .i64 0]], []⟩ 8 (by kernel_rfl) (by kernel_rfl) (by kernel_rfl) (by kernel_rfl)) ?_
  intro W base args ds gs before hval0 hW hcnd hsz0 _
  have hval : ∀ (j : Nat) t v, Try.f12.params[j]? = some t → args[j]? = some v → Value.okWide Try.prog W .any base t v := hval0
  have hW' := hW
  obtain ⟨p, q, hA0, hV, rfl, hfz, hnd⟩ := hW
  have hA : DataW.TrodAll enc Try.prog W 0 (fun _ => true) true Try.f12.params.toList args.toList ds p := hA0
  have hlt : ∀ x ∈ p, x.block < W.heap.size := fun x hx => by simpa using hW'.lt x (by simp [hx])
  have hready : ∀ t ∈ Try.f12.params.toList, Try.prog.readableRec t = true ∧ t < Try.prog.types.size := by
    rw [Try.params12]
    intro t ht
    simp only [List.mem_cons, List.not_mem_nil, or_false] at ht
    rcases ht with rfl | rfl <;> exact ⟨by kernel_rfl, of_decide_eq_true (by kernel_rfl)⟩
  have hAk := hA
  rw [Try.params12] at hA hval
  obtain ⟨v0, vs0, d0, ds0, p0, q0, hargs, rfl, rfl, h0, r0⟩ := trodAll_cons hA
  obtain ⟨v1, vs1, d1, ds1, p1, q1, rfl, rfl, rfl, h1, r1⟩ := trodAll_cons r0
  obtain ⟨rfl, rfl, rfl⟩ := trodAll_nil r1
  obtain rfl : args = #[v0, v1] := by cases args; simp_all
  obtain ⟨rfl, rfl⟩ := trodVars_none hV
  obtain ⟨c0, m0, rfl, i0⟩ := Open.Flat.open_agg flatPoint (.inl ⟨_, Try.underlying23⟩) (hval 0 23 v0 rfl rfl) h0
  obtain ⟨n0_0, n0_1, rfl, x0_0, x0_1⟩ := i0.of2
  obtain ⟨c1, m1, rfl, i1⟩ := Open.Flat.open_agg flatPoint (.inl ⟨_, Try.underlying23⟩) (hval 1 23 v1 rfl rfl) h1
  obtain ⟨n1_0, n1_1, rfl, x1_0, x1_1⟩ := i1.of2
  clear hA0 hval0 hsz0
  refine (Vec.vecpairs_row n0_0 n0_1 n1_0 n1_1 W).mono fun e W' ⟨he, bel⟩ => ?_
  subst he
  exact ⟨_, rfl, _, _, _, [], _, [], hW', trodAll_mk1 (shut_bool Try.underlying4 _), Open.trodAll_below laidOut bel hready hAk hlt, rfl, bel.frame _, fun h => by cases h⟩
theorem over : Rows.vecPairsRow.holds Try.pinned (OpenSpec.ofChange Rows.vecPairsSpec) :=
  OpenClaim.holds_of_wide 12 Try.f12 rfl rfl rfl rfl rfl rfl rfl ⟨rfl, rfl, rfl, rfl, rfl⟩ rfl rfl rfl rfl rfl (by kernel_rfl) Try.func12 (by kernel_rfl)
    (of_decide_eq_true (by kernel_rfl)) (by unfold Func.isWrapper; first | (rw [if_pos (by decide +kernel)]; kernel_rfl) | (rw [if_neg (by decide +kernel)]; exact ⟨rfl, rfl⟩))
    (fun os started H enc _ => lifted os started H enc)
theorem proved : Rows.VecPairsSaid := over
end vecPairs
/-- The row, for the claim. -/
theorem vecPairs_holds : Rows.VecPairsSaid := vecPairs.proved
end Go.Proofs.Ytdhegcjclfllmaa
