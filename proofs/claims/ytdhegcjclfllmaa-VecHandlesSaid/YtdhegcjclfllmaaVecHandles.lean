/- The law VecHandles: a quarter's handle is 593011235 but for 4, of one direction and itself there is nearly none; none is longer than 4 thirds, and it is the same from either end. For all inputs. -/
import Derived.Test.YtdhegcjclfllmaaVecL
import Derived.Test.YtdhegcjclfllmaaFlatP
import Derived.Test.YtdhegcjclfllmaaWm1
import Derived.Test.YtdhegcjclfllmaaRows
import Derived.ProofKit
import Derived.OpenShut
import Derived.ShutString
import Derived.ChangeOld
import Derived.SizedLaws
import Derived.Test.YtdhegcjclfllmaaPEx18
namespace Go.Proofs.Ytdhegcjclfllmaa
open Go Go.RowKit
set_option linter.unusedVariables false
set_option linter.unusedSimpArgs false
namespace Vec
open Go.Proofs.Ytdhegcjclfllmaa.PE Go.Proofs.YtdhegcjclfllmaaW.PrintWords Go.Proofs.YtdhegcjclfllmaaW.PrintLast Go.Proofs.YtdhegcjclfllmaaW.PrintMore
theorem turn_f1 {a b : Int} (h : One a b) : vec_Turn.f a b 1 = some (-b, a) := by
  have := h.a0; have := h.a1; have := h.b0; have := h.b1
  unfold vec_Turn.f; rw [if_pos (by omega), show VecT.quart 1 = 1 by decide]; rfl
theorem dot_0 (a b : Int) : dot a b (-b) a = 0 := by
  unfold dot Wide.dotV Wide.fitV Wide.near
  rw [if_pos (by decide), show a * -b + b * a = 0 by rw [Int.mul_neg, Int.mul_comm b a]; omega]; decide
theorem dot_self {a b : Int} (H : One a b) : dot a b a b = (2 * (a * a + b * b) + 1073741824) / 2147483648 := by
  have h0 := H.lo
  have h9 := H.hi
  unfold dot Wide.dotV Wide.fitV Wide.near
  rw [if_pos (by decide), show (2 : Int) ^ (30 : Int).toNat = 1073741824 by decide, show (2 : Int) * 1073741824 = 2147483648 by decide, if_pos (by omega)]
theorem dot_comm (a b c d : Int) : dot a b c d = dot c d a b := by unfold dot Wide.dotV; rw [Int.mul_comm a c, Int.mul_comm b d]
theorem hnd_0 : hnd 0 = 593011234 := by kernel_rfl
/-- The handle out of the two roots: a quotient of what is above nought. -/
theorem hnd_q (D : Int) : hnd D = Wide.fitV (Wide.near (4294967296 * halfS D) (3 * (1073741824 + halfC D))) := by
  obtain ⟨⟨h0, h1⟩, h2, h3⟩ := half_in D
  unfold hnd Wide.mulDivV
  rw [if_neg (by omega), if_neg (by omega), if_neg (by omega), show 4 * halfS D * 1073741824 = 4294967296 * halfS D by omega]
theorem root_le {n m : Int} (h0 : 0 ≤ n) (h1 : n ≤ 1152921504606846976) (hm : 0 ≤ m) (h : n < (m + 1) * (m + 1)) : Root.rootF n ≤ m := by
  obtain ⟨a, b, c, d⟩ := Root.rootF_spec (N := n) h0 (by omega)
  by_cases hx : Root.rootF n ≤ m
  · exact hx
  · have : (m + 1) * (m + 1) ≤ Root.rootF n * Root.rootF n := Int.mul_le_mul (by omega) (by omega) (by omega) (by omega)
    omega
theorem near_le {p d m : Int} (hd : 0 < d) (h : 2 * p + d < (m + 1) * (2 * d)) : Wide.near p d ≤ m := by
  unfold Wide.near
  have := Int.ediv_lt_of_lt_mul (a := 2 * p + d) (b := m + 1) (c := 2 * d) (by omega) h
  omega
theorem near_0 {p d : Int} (hp : 0 ≤ p) (hd : 0 < d) : 0 ≤ Wide.near p d := by
  unfold Wide.near; exact Int.ediv_nonneg (by omega) (by omega)
theorem halfS_le (D : Int) : 0 ≤ halfS D ∧ halfS D ≤ 1073741824 := by
  have h := cut_in D
  refine ⟨(half_in D).1.1, ?_⟩
  exact root_le (by omega) (by omega) (by decide) (by omega)
theorem hnd_in (D : Int) : 0 ≤ hnd D ∧ hnd D ≤ 1431655766 := by
  rw [hnd_q]
  obtain ⟨⟨_, _⟩, h2, h3⟩ := half_in D
  obtain ⟨h0, h1⟩ := halfS_le D
  have p := near_0 (p := 4294967296 * halfS D) (d := 3 * (1073741824 + halfC D)) (by omega) (by omega)
  have q := near_le (p := 4294967296 * halfS D) (d := 3 * (1073741824 + halfC D)) (m := 1431655766) (by omega) (by omega)
  unfold Wide.fitV
  rw [if_pos (by omega)]; exact ⟨p, q⟩
theorem hnd_small {D : Int} (h : 1073741696 ≤ D) : hnd D < 524288 := by
  have e := (hnd_in D).1
  rw [hnd_q] at e ⊢
  obtain ⟨⟨_, _⟩, h2, h3⟩ := half_in D
  have hc := cut_in D
  have hc1 : 1073741696 ≤ cut D := by unfold cut mn mx; (repeat' split) <;> omega
  have h1 : halfS D ≤ 262144 := root_le (by omega) (by omega) (by decide) (by omega)
  have h0 := (half_in D).1.1
  have q := near_le (p := 4294967296 * halfS D) (d := 3 * (1073741824 + halfC D)) (m := 350000) (by omega) (by omega)
  have p := near_0 (p := 4294967296 * halfS D) (d := 3 * (1073741824 + halfC D)) (by omega) (by omega)
  unfold Wide.fitV
  rw [if_pos (by omega)]; omega
theorem vechandles (a b c d : Int) : ∃ k, pointillistlaw09_VecHandles.f k a b c d = some true := by
  refine ⟨70, ?_⟩
  obtain ⟨r, hr, h1⟩ := right_f a b
  obtain ⟨s, hs, h2⟩ := right_f c d
  unfold pointillistlaw09_VecHandles.f
  rw [wakes, hr, hs]
  simp only [Option.bind_some, if_true]
  cases r with
  | false => rfl
  | true =>
    cases s with
    | false => rfl
    | true =>
      have H := h1.1 rfl
      obtain ⟨ha, hb⟩ := H.i64
      obtain ⟨hc, hd⟩ := (h2.1 rfl).i64
      have hnb : I64 (-b) := by
        have := H.b0; have := H.b1; unfold I64; omega
      rw [if_pos rfl]
      simp only [pointillistlaw09_VecHandles.j0, Bool.not_true, Bool.false_eq_true, if_false]
      rw [turn_f1 H]
      simp only [Option.bind_some]
      rw [handle_f ha hb hnb ha, dot_0, hnd_0, handle_f ha hb hc hd, handle_f ha hb ha hb, handle_f hc hd ha hb, dot_comm c d a b]
      obtain ⟨p, q⟩ := hnd_in (dot a b c d)
      have g := hnd_small (D := dot a b a b) (by rw [dot_self H]; have := H.lo; omega)
      generalize hnd (dot a b c d) = h at *
      generalize hnd (dot a b a b) = m at *
      simp only [Option.bind_some]
      rw [if_pos (by decide), if_pos (by decide), if_pos p, if_pos q, if_pos g]
      simp
theorem vechandles_row (a b c d : Int) (w : World) : Calls Try.prog 11 #[.agg #[.int .i64 a, .int .i64 b], .agg #[.int .i64 c, .int .i64 d]] w fun e w' => e = .returned (.bool true) ∧ Below w.heap.size w w' := by
  obtain ⟨k, hk⟩ := vechandles a b c d
  exact pointillistlaw09_VecHandles.calls k a b c d true w hk
end Vec
namespace vecHandles
open Go.ChangeShapes Go.WideShapes Go.ChangeAt Go.RowKit
open Go.ChangeMaps (open_string shut_string)
theorem own : ownKnob Try.prog.godebug = none := by kernel_rfl
theorem laidOut : laidOutB Try.prog = true := by kernel_rfl
set_option maxRecDepth 100000 in
theorem lifted (os : Os) (started : os.Started) (H : Type) (enc : TypeId × Value → H) :
    ReturnsInHanded {} Try.checked os 11 .any (Rows.vecHandlesSpec.pre6 enc Try.prog Try.f11 Rows.vecHandlesRow.domain false) (Rows.vecHandlesSpec.post enc Try.prog Try.f11 false true false false) := by
  refine returnsInHanded_of_change_sized (C := Try.checked) own started (by kernel_rfl) Try.func11
    (ChangeSpec.witness6 (enc := enc) (C := Try.checked) false ⟨#[], #[.agg #[.int .i64 0, .int .i64 0], .agg #[.int .i64 0, .int .i64 0]], []⟩ 8 (by kernel_rfl) (by kernel_rfl) (by kernel_rfl) (by kernel_rfl)) ?_
  intro W base args ds gs before hval0 hW hcnd hsz0 _
  have hval : ∀ (j : Nat) t v, Try.f11.params[j]? = some t → args[j]? = some v → Value.okWide Try.prog W .any base t v := hval0
  have hW' := hW
  obtain ⟨p, q, hA0, hV, rfl, hfz, hnd⟩ := hW
  have hA : DataW.TrodAll enc Try.prog W 0 (fun _ => true) true Try.f11.params.toList args.toList ds p := hA0
  have hlt : ∀ x ∈ p, x.block < W.heap.size := fun x hx => by simpa using hW'.lt x (by simp [hx])
  have hready : ∀ t ∈ Try.f11.params.toList, Try.prog.readableRec t = true ∧ t < Try.prog.types.size := by
    rw [Try.params11]
    intro t ht
    simp only [List.mem_cons, List.not_mem_nil, or_false] at ht
    rcases ht with rfl | rfl <;> exact ⟨by kernel_rfl, of_decide_eq_true (by kernel_rfl)⟩
  have hAk := hA
  rw [Try.params11] at hA hval
  obtain ⟨v0, vs0, d0, ds0, p0, q0, hargs, rfl, rfl, h0, r0⟩ := trodAll_cons hA
  obtain ⟨v1, vs1, d1, ds1, p1, q1, rfl, rfl, rfl, h1, r1⟩ := trodAll_cons r0
  obtain ⟨rfl, rfl, rfl⟩ := trodAll_nil r1
  obtain rfl : args = #[v0, v1] := by cases args; simp_all
  obtain ⟨rfl, rfl⟩ := trodVars_none hV
  obtain ⟨c0, m0, rfl, i0⟩ := Open.Flat.open_agg flatPoint (.inl ⟨_, Try.underlying23⟩) (hval 0 23 v0 rfl rfl) h0
  obtain ⟨n0_0, n0_1, rfl, x0_0, x0_1⟩ := i0.of2
  obtain ⟨c1, m1, rfl, i1⟩ := Open.Flat.open_agg flatPoint (.inl ⟨_, Try.underlying23⟩) (hval 1 23 v1 rfl rfl) h1
  obtain ⟨n1_0, n1_1, rfl, x1_0, x1_1⟩ := i1.of2
  clear hA0 hval0 hsz0
  refine (Vec.vechandles_row n0_0 n0_1 n1_0 n1_1 W).mono fun e W' ⟨he, bel⟩ => ?_
  subst he
  exact ⟨_, rfl, _, _, _, [], _, [], hW', trodAll_mk1 (shut_bool Try.underlying4 _), Open.trodAll_below laidOut bel hready hAk hlt, rfl, bel.frame _, fun h => by cases h⟩
theorem over : Rows.vecHandlesRow.holds Try.pinned (OpenSpec.ofChange Rows.vecHandlesSpec) :=
  OpenClaim.holds_of_wide 11 Try.f11 rfl rfl rfl rfl rfl rfl rfl ⟨rfl, rfl, rfl, rfl, rfl⟩ rfl rfl rfl rfl rfl (by kernel_rfl) Try.func11 (by kernel_rfl)
    (of_decide_eq_true (by kernel_rfl)) (by unfold Func.isWrapper; first | (rw [if_pos (by decide +kernel)]; kernel_rfl) | (rw [if_neg (by decide +kernel)]; exact ⟨rfl, rfl⟩))
    (fun os started H enc _ => lifted os started H enc)
theorem proved : Rows.VecHandlesSaid := over
end vecHandles
/-- The row, for the claim. -/
theorem vecHandles_holds : Rows.VecHandlesSaid := vecHandles.proved
end Go.Proofs.Ytdhegcjclfllmaa
