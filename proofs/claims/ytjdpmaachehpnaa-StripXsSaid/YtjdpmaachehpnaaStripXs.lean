/- The law StripXs: the X of any edge at any height between its ends is the document's; at the ends it is theirs; it never lies outside. For all inputs. -/
import Derived.Test.YtjdpmaachehpnaaStripP
import Derived.Test.YtjdpmaachehpnaaFlatE
import Derived.Test.YtjdpmaachehpnaaWm1
import Derived.Test.YtjdpmaachehpnaaRows
import Derived.ProofKit
import Derived.OpenShut
import Derived.ShutString
import Derived.ChangeOld
import Derived.SizedLaws
import Derived.Test.YtjdpmaachehpnaaPEx19
namespace Go.Proofs.Ytjdpmaachehpnaa
open Go Go.RowKit
set_option linter.unusedVariables false
set_option linter.unusedSimpArgs false
namespace Strip
open Go.Proofs.Ytjdpmaachehpnaa.PE Go.Proofs.YtjdpmaachehpnaaW.PrintWords Go.Proofs.YtjdpmaachehpnaaW.PrintLast Go.Proofs.YtjdpmaachehpnaaW.PrintMore
theorem md_zero {a c : Int} (hc : c ≠ 0) : Wide.mulDivV a 0 c = 0 := by
  unfold Wide.mulDivV Wide.fitV Wide.near
  simp only [hc, if_false, Int.mul_zero, Int.neg_zero, ite_self, Int.zero_add]
  have : ∀ d : Int, 0 < d → d / (2 * d) = 0 := fun d hd => Int.ediv_eq_zero_of_lt (by omega) (by omega)
  rw [this _ (by split <;> omega)]; simp
theorem near_full {a c : Int} (hc : 0 < c) : Wide.near (a * c) c = a := by
  unfold Wide.near
  rw [show 2 * (a * c) + c = c + a * (2 * c) by rw [Int.mul_left_comm]; omega, Int.add_mul_ediv_right _ _ (by omega), Int.ediv_eq_zero_of_lt (by omega) (by omega)]; omega
theorem md_full {a c : Int} (ha : -1152921504606846976 ≤ a ∧ a ≤ 1152921504606846976) (hc : c ≠ 0) : Wide.mulDivV a c c = a := by
  unfold Wide.mulDivV Wide.fitV
  rcases Int.lt_or_gt_of_ne hc with h | h
  · simp only [hc, h, if_true, if_false]
    rw [show -(a * c) = a * -c by rw [Int.mul_neg], near_full (by omega), if_pos (by omega)]
  · simp only [hc, show ¬ c < 0 by omega, if_false]
    rw [near_full h, if_pos (by omega)]
section
variable {px py qx qy h : Int}
theorem xAt_p (hd : Dom px py qx qy h) : xAt px py qx qy py = px := by
  unfold xAt; rw [Int.sub_self, md_zero (by have := hd.ne; omega)]; omega
theorem xAt_q (hd : Dom px py qx qy h) : xAt px py qx qy qy = qx := by
  obtain ⟨h1, h2⟩ := hd.ipx
  obtain ⟨h3, h4⟩ := hd.iqx
  unfold xAt; rw [md_full (by omega) (by have := hd.ne; omega)]; omega
end
theorem stripxs (a b c d t : Int) (t0 : 0 ≤ t) (t1 : t ≤ 4294967295) : pointillistlaw15_StripXs.f 5 a b c d t = some true := by
  obtain ⟨r, hr, hb⟩ := right_f a b c d (k := 5) (by omega)
  unfold pointillistlaw15_StripXs.f
  rw [wakes, hr]
  simp only [Option.bind_some, if_true]
  cases r with
  | false => rfl
  | true =>
    obtain ⟨⟨ha, hb, hc, hd⟩, hne⟩ := hb.1 rfl
    have D : Dom a b c d 0 := ⟨ha, hb, hc, hd, hne, by decide, by decide⟩
    have hb0 := hb.1; have hb1 := hb.2; have hd0 := hd.1; have hd1 := hd.2
    obtain ⟨lo, hlo⟩ : ∃ lo, mn b d = lo := ⟨_, rfl⟩
    obtain ⟨hi, hhi⟩ : ∃ hi, mx b d = hi := ⟨_, rfl⟩
    have hl : (lo = b ∧ hi = d ∧ b ≤ d) ∨ (lo = d ∧ hi = b ∧ d ≤ b) := by
      unfold mn at hlo; unfold mx at hhi
      (repeat' split at hlo) <;> (repeat' split at hhi) <;> omega
    rw [if_pos rfl, hlo, hhi, w64 (x := hi - lo) (by omega) (by omega), w64 (x := hi - lo + 1) (by omega) (by omega), w64 (x := t) (by omega) (by omega), if_neg (by omega), Int.tmod_eq_emod_of_nonneg t0]
    have m0 := Int.emod_nonneg t (show hi - lo + 1 ≠ 0 by omega)
    have m1 := Int.emod_lt_of_pos t (show 0 < hi - lo + 1 by omega)
    generalize t % (hi - lo + 1) = m at *
    rw [w64 (x := lo + m) (by omega) (by omega), x_f D (by omega), refx_f D (by omega)]
    simp only [Option.bind_some, if_true]
    rw [x_f D (y := b) (by omega), xAt_p D]
    simp only [Option.bind_some, if_true]
    rw [x_f D (y := d) (by omega), xAt_q D]
    simp only [Option.bind_some, if_true]
    obtain ⟨p, q⟩ := xAt_in D (y := lo + m) (by omega)
    unfold mn mx
    have := p; have := q
    rw [if_pos (by split <;> omega)]
    congr 1
    rw [decide_eq_true_eq]
    split <;> omega
theorem stripxs_row (a b c d t : Int) (t0 : 0 ≤ t) (t1 : t ≤ 4294967295) (w : World) : Calls Try.prog 4 #[.agg #[.int .i64 a, .int .i64 b, .int .i64 c, .int .i64 d], .int .u32 t] w fun e w' => e = .returned (.bool true) ∧ Below w.heap.size w w' :=
  pointillistlaw15_StripXs.calls 5 a b c d t true w (stripxs a b c d t t0 t1)
end Strip
namespace stripXs
open Go.ChangeShapes Go.WideShapes Go.ChangeAt Go.RowKit
open Go.ChangeMaps (open_string shut_string)
theorem own : ownKnob Try.prog.godebug = none := by kernel_rfl
theorem laidOut : laidOutB Try.prog = true := by kernel_rfl
set_option maxRecDepth 100000 in
theorem lifted (os : Os) (started : os.Started) (H : Type) (enc : TypeId × Value → H) :
    ReturnsInHanded {} Try.checked os 4 .any (Rows.stripXsSpec.pre6 enc Try.prog Try.f4 Rows.stripXsRow.domain false) (Rows.stripXsSpec.post enc Try.prog Try.f4 false true false false) := by
  refine returnsInHanded_of_change_sized (C := Try.checked) own started (by kernel_rfl) Try.func4
    (ChangeSpec.witness6 (enc := enc) (C := Try.checked) false ⟨#[], #[.agg #[.int .i64 0, .int .i64 0, .int .i64 0, .int .i64 0], .int .u32 0], []⟩ 8 (by kernel_rfl) (by kernel_rfl) (by kernel_rfl) (by kernel_rfl)) ?_
  intro W base args ds gs before hval0 hW hcnd hsz0 _
  have hval : ∀ (j : Nat) t v, Try.f4.params[j]? = some t → args[j]? = some v → Value.okWide Try.prog W .any base t v := hval0
  have hW' := hW
  obtain ⟨p, q, hA0, hV, rfl, hfz, hnd⟩ := hW
  have hA : DataW.TrodAll enc Try.prog W 0 (fun _ => true) true Try.f4.params.toList args.toList ds p := hA0
  have hlt : ∀ x ∈ p, x.block < W.heap.size := fun x hx => by simpa using hW'.lt x (by simp [hx])
  have hready : ∀ t ∈ Try.f4.params.toList, Try.prog.readableRec t = true ∧ t < Try.prog.types.size := by
    rw [Try.params4]
    intro t ht
    simp only [List.mem_cons, List.not_mem_nil, or_false] at ht
    rcases ht with rfl | rfl <;> exact ⟨by kernel_rfl, of_decide_eq_true (by kernel_rfl)⟩
  have hAk := hA
  rw [Try.params4] at hA hval
  obtain ⟨v0, vs0, d0, ds0, p0, q0, hargs, rfl, rfl, h0, r0⟩ := trodAll_cons hA
  obtain ⟨v1, vs1, d1, ds1, p1, q1, rfl, rfl, rfl, h1, r1⟩ := trodAll_cons r0
  obtain ⟨rfl, rfl, rfl⟩ := trodAll_nil r1
  obtain rfl : args = #[v0, v1] := by cases args; simp_all
  obtain ⟨rfl, rfl⟩ := trodVars_none hV
  obtain ⟨c0, m0, rfl, i0⟩ := Open.Flat.open_agg flatEdge (.inl ⟨_, Try.underlying25⟩) (hval 0 25 v0 rfl rfl) h0
  obtain ⟨n0_0, n0_1, n0_2, n0_3, rfl, x0_0, x0_1, x0_2, x0_3⟩ := i0.of4
  obtain ⟨a1, rfl, rfl, rfl, w1⟩ := open_int Try.underlying38 (hval 1 38 v1 rfl rfl) h1
  clear hA0 hval0 hsz0
  refine (Strip.stripxs_row n0_0 n0_1 n0_2 n0_3 a1 (Num.wf_u32 w1).1 (Num.wf_u32 w1).2 W).mono fun e W' ⟨he, bel⟩ => ?_
  subst he
  exact ⟨_, rfl, _, _, _, [], _, [], hW', trodAll_mk1 (shut_bool Try.underlying4 _), Open.trodAll_below laidOut bel hready hAk hlt, rfl, bel.frame _, fun h => by cases h⟩
theorem over : Rows.stripXsRow.holds Try.pinned (OpenSpec.ofChange Rows.stripXsSpec) :=
  OpenClaim.holds_of_wide 4 Try.f4 rfl rfl rfl rfl rfl rfl rfl ⟨rfl, rfl, rfl, rfl, rfl⟩ rfl rfl rfl rfl rfl (by kernel_rfl) Try.func4 (by kernel_rfl)
    (of_decide_eq_true (by kernel_rfl)) (by unfold Func.isWrapper; first | (rw [if_pos (by decide +kernel)]; kernel_rfl) | (rw [if_neg (by decide +kernel)]; exact ⟨rfl, rfl⟩))
    (fun os started H enc _ => lifted os started H enc)
theorem proved : Rows.StripXsSaid := over
end stripXs
/-- The row, for the claim. -/
theorem stripXs_holds : Rows.StripXsSaid := stripXs.proved
end Go.Proofs.Ytjdpmaachehpnaa
