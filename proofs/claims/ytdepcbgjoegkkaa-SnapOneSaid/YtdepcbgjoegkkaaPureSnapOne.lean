/- One edge goes somewhere just if its ends' Ys, snapped, are unlike; turned about it is snapped to the same one, turned about: for every input, without a condition. -/
import Derived.Test.YtdepcbgjoegkkaaPSnapOnex
import Derived.Test.YtdepcbgjoegkkaaSnapNum
import Derived.Test.YtdepcbgjoegkkaaOpen
import Derived.Test.YtdepcbgjoegkkaaRows
import Derived.ProofKit
import Derived.OpenShut
import Derived.ShutString
import Derived.ChangeOld
import Derived.SizedLaws
namespace Go.Proofs.Ytdepcbgjoegkkaa
open Go Go.RowKit
set_option linter.unusedVariables false
set_option linter.unusedSimpArgs false
namespace SnapOneL
open Go.Proofs.Ytdepcbgjoegkkaa.PSnapOne Go.Proofs.YtdepcbgjoegkkaaW.PrintWords Go.Proofs.YtdepcbgjoegkkaaW.PrintLast Go.Proofs.Ytdepcbgjoegkkaa.Num
theorem number {n : Int} (h0 : -9223372036854775808 ≤ n) (h1 : n ≤ 9223372036854775295) : snap_Number.f n = some (snapN n) := by
  unfold snap_Number.f; rw [snap_bits h0 h1]
theorem wakes : pointillistlaw14_wakes.f = some true := by
  unfold pointillistlaw14_wakes.f
  rw [number (by omega) (by omega), number (by omega) (by omega), number (by omega) (by omega), number (by omega) (by omega)]
  decide
theorem refN {n : Int} (h0 : -4611686018427387904 ≤ n) (h1 : n ≤ 4611686018427387904) : pointillistref14_Number.f n = some (snapN n) := by
  unfold pointillistref14_Number.f snapN
  have hm : n.tmod 1024 = n % 1024 ∨ (n.tmod 1024 = n % 1024 - 1024 ∧ n % 1024 ≠ 0) := by
    rcases Int.le_total 0 n with h | h
    · left; exact Int.tmod_eq_emod_of_nonneg h
    · rw [Int.tmod_eq_emod]; by_cases hd : (1024 : Int) ∣ n
      · left; simp [hd]
      · by_cases hn : 0 ≤ n
        · left; simp [hn]
        · right; refine ⟨by simp [hd, hn], fun e => hd (Int.dvd_of_emod_eq_zero e)⟩
  generalize n.tmod 1024 = t at *
  split
  · have e1 : wrap64 (t + 1024) = t + 1024 := wrap64_in (by omega) (by omega)
    have e2 : wrap64 (n - (t + 1024)) = n - (t + 1024) := wrap64_in (by omega) (by omega)
    rw [e1, e2]
    split
    · rw [wrap64_in (by omega) (by omega)]; congr 1; omega
    · congr 1; omega
  · have e2 : wrap64 (n - t) = n - t := wrap64_in (by omega) (by omega)
    rw [e2]
    split
    · rw [wrap64_in (by omega) (by omega)]; congr 1; omega
    · congr 1; omega
def In62 (n : Int) : Prop := -4611686018427387904 ≤ n ∧ n ≤ 4611686018427387904
theorem point {x y : Int} (hx : In62 x) (hy : In62 y) : snap_Point.f x y = some (snapN x, snapN y) := by
  unfold In62 at hx hy; unfold snap_Point.f
  rw [number (by omega) (by omega), number (by omega) (by omega)]; rfl
theorem rpoint {x y : Int} (hx : In62 x) (hy : In62 y) : pointillistref14_Point.f x y = some (snapN x, snapN y) := by
  unfold In62 at hx hy; unfold pointillistref14_Point.f
  rw [refN hx.1 hx.2, refN hy.1 hy.2]; rfl
theorem edge {a b c d : Int} (ha : In62 a) (hb : In62 b) (hc : In62 c) (hd : In62 d) : snap_Edge.f a b c d = if snapN b = snapN d then some (0, 0, 0, 0, false) else some (snapN a, snapN b, snapN c, snapN d, true) := by
  unfold snap_Edge.f; rw [point ha hb, point hc hd]; rfl
theorem w1 : wrap64 1 = 1 := wrap64_in (by omega) (by omega)
theorem w2 : wrap64 2 = 2 := wrap64_in (by omega) (by omega)
theorem w3 : wrap64 3 = 3 := wrap64_in (by omega) (by omega)
theorem w4 : wrap64 4 = 4 := wrap64_in (by omega) (by omega)
theorem wm : wrap64 (-4611686018427387904) = -4611686018427387904 := wrap64_in (by omega) (by omega)
theorem small (a b c d : Int) : ∃ t, pointillistref14_Small.f 10 [(⟨⟨a, b⟩, ⟨c, d⟩⟩ : S30)] 4611686018427387904 = some t ∧ (t = true → In62 a ∧ In62 b ∧ In62 c ∧ In62 d) := by
  unfold pointillistref14_Small.f In62
  by_cases a1 : a > 4611686018427387904
  · exact ⟨false, by simp [pointillistref14_Small.l0, pointillistref14_Small.l1, rd_T30, rd, w1, w2, w3, w4, wm, a1], by simp⟩
  by_cases a2 : a < -4611686018427387904
  · exact ⟨false, by simp [pointillistref14_Small.l0, pointillistref14_Small.l1, rd_T30, rd, w1, w2, w3, w4, wm, a1, a2], by simp⟩
  by_cases b1 : b > 4611686018427387904
  · exact ⟨false, by simp [pointillistref14_Small.l0, pointillistref14_Small.l1, rd_T30, rd, w1, w2, w3, w4, wm, a1, a2, b1], by simp⟩
  by_cases b2 : b < -4611686018427387904
  · exact ⟨false, by simp [pointillistref14_Small.l0, pointillistref14_Small.l1, rd_T30, rd, w1, w2, w3, w4, wm, a1, a2, b1, b2], by simp⟩
  by_cases c1 : c > 4611686018427387904
  · exact ⟨false, by simp [pointillistref14_Small.l0, pointillistref14_Small.l1, rd_T30, rd, w1, w2, w3, w4, wm, a1, a2, b1, b2, c1], by simp⟩
  by_cases c2 : c < -4611686018427387904
  · exact ⟨false, by simp [pointillistref14_Small.l0, pointillistref14_Small.l1, rd_T30, rd, w1, w2, w3, w4, wm, a1, a2, b1, b2, c1, c2], by simp⟩
  by_cases d1 : d > 4611686018427387904
  · exact ⟨false, by simp [pointillistref14_Small.l0, pointillistref14_Small.l1, rd_T30, rd, w1, w2, w3, w4, wm, a1, a2, b1, b2, c1, c2, d1], by simp⟩
  by_cases d2 : d < -4611686018427387904
  · exact ⟨false, by simp [pointillistref14_Small.l0, pointillistref14_Small.l1, rd_T30, rd, w1, w2, w3, w4, wm, a1, a2, b1, b2, c1, c2, d1, d2], by simp⟩
  exact ⟨true, by simp [pointillistref14_Small.l0, pointillistref14_Small.l1, rd_T30, rd, w1, w2, w3, w4, wm, a1, a2, b1, b2, c1, c2, d1, d2], fun _ => by omega⟩
theorem one (a b c d : Int) : pointillistlaw14_SnapOne.f 10 a b c d = some true := by
  unfold pointillistlaw14_SnapOne.f
  obtain ⟨t, ht, hin⟩ := small a b c d
  rw [wakes, ht]
  simp only [Option.bind_some, if_true]
  cases t with
  | false => simp
  | true =>
    obtain ⟨ha, hb, hc, hd⟩ := hin rfl
    rw [edge ha hb hc hd, edge hc hd ha hb, refN hb.1 hb.2, refN hd.1 hd.2]
    by_cases h : snapN b = snapN d
    · rw [if_pos h, if_pos h.symm]
      simp [pointillistlaw14_SnapOne.j0, h]
    · have h' : ¬ snapN d = snapN b := fun e => h e.symm
      rw [if_neg h, if_neg h']
      have h1 : (snapN b != snapN d) = true := by simp [h]
      simp [pointillistlaw14_SnapOne.j0, h1, rpoint ha hb, rpoint hc hd]
end SnapOneL
theorem flatI64 : Open.Flat Try.prog 2 [.i64] := Open.Flat.int Try.underlying2 (by kernel_rfl)
theorem flatPoint : Open.Flat Try.prog 26 [.i64, .i64] := Open.Flat.struct Try.underlying26 (by kernel_rfl) (.cons (k1 := [.i64]) (k2 := [.i64]) flatI64 rfl (.cons (k1 := [.i64]) (k2 := []) flatI64 rfl (.nil _)))
theorem flatEdge : Open.Flat Try.prog 30 [.i64, .i64, .i64, .i64] := Open.Flat.struct Try.underlying30 (by kernel_rfl) (.cons (k1 := [.i64, .i64]) (k2 := [.i64, .i64]) flatPoint rfl (.cons (k1 := [.i64, .i64]) (k2 := []) flatPoint rfl (.nil _)))
theorem SnapOneL.row (a b c d : Int) (W : World) : Calls Try.prog 5 #[.agg #[.int .i64 a, .int .i64 b, .int .i64 c, .int .i64 d]] W fun e w' => e = .returned (.bool true) ∧ Below W.heap.size W w' :=
  PSnapOne.pointillistlaw14_SnapOne.calls 10 a b c d true W (SnapOneL.one a b c d)
namespace snapOne
open Go.ChangeShapes Go.WideShapes Go.ChangeAt Go.RowKit
open Go.ChangeMaps (open_string shut_string)
theorem own : ownKnob Try.prog.godebug = none := by kernel_rfl
theorem laidOut : laidOutB Try.prog = true := by kernel_rfl
set_option maxRecDepth 100000 in
theorem lifted (os : Os) (started : os.Started) (H : Type) (enc : TypeId × Value → H) :
    ReturnsInHanded {} Try.checked os 5 .any (Rows.snapOneSpec.pre6 enc Try.prog Try.f5 Rows.snapOneRow.domain false) (Rows.snapOneSpec.post enc Try.prog Try.f5 false true false false) := by
  refine returnsInHanded_of_change_sized (C := Try.checked) own started (by kernel_rfl) Try.func5
    (ChangeSpec.witness6 (enc := enc) (C := Try.checked) false ⟨#[], #[.agg #[.int .i64 0, .int .i64 0, .int .i64 0, .int .i64 0]], []⟩ 8 (by kernel_rfl) (by kernel_rfl) (by kernel_rfl) (by kernel_rfl)) ?_
  intro W base args ds gs before hval0 hW hcnd hsz0 _
  have hval : ∀ (j : Nat) t v, Try.f5.params[j]? = some t → args[j]? = some v → Value.okWide Try.prog W .any base t v := hval0
  have hW' := hW
  obtain ⟨p, q, hA0, hV, rfl, hfz, hnd⟩ := hW
  have hA : DataW.TrodAll enc Try.prog W 0 (fun _ => true) true Try.f5.params.toList args.toList ds p := hA0
  have hlt : ∀ x ∈ p, x.block < W.heap.size := fun x hx => by simpa using hW'.lt x (by simp [hx])
  have hready : ∀ t ∈ Try.f5.params.toList, Try.prog.readableRec t = true ∧ t < Try.prog.types.size := by
    rw [Try.params5]
    intro t ht
    simp only [List.mem_cons, List.not_mem_nil, or_false] at ht
    rcases ht with rfl <;> exact ⟨by kernel_rfl, of_decide_eq_true (by kernel_rfl)⟩
  have hAk := hA
  rw [Try.params5] at hA hval
  obtain ⟨v0, vs0, d0, ds0, p0, q0, hargs, rfl, rfl, h0, r0⟩ := trodAll_cons hA
  obtain ⟨rfl, rfl, rfl⟩ := trodAll_nil r0
  obtain rfl : args = #[v0] := by cases args; simp_all
  obtain ⟨rfl, rfl⟩ := trodVars_none hV
  obtain ⟨c0, m0, rfl, i0⟩ := Open.Flat.open_agg flatEdge (.inl ⟨_, Try.underlying30⟩) (hval 0 30 v0 rfl rfl) h0
  obtain ⟨n0_0, n0_1, n0_2, n0_3, rfl, x0_0, x0_1, x0_2, x0_3⟩ := i0.of4
  clear hA0 hval0 hsz0
  refine (SnapOneL.row n0_0 n0_1 n0_2 n0_3 W).mono fun e W' ⟨he, bel⟩ => ?_
  subst he
  exact ⟨_, rfl, _, _, _, [], _, [], hW', trodAll_mk1 (shut_bool Try.underlying4 _), Open.trodAll_below laidOut bel hready hAk hlt, rfl, bel.frame _, fun h => by cases h⟩
theorem over : Rows.snapOneRow.holds Try.pinned (OpenSpec.ofChange Rows.snapOneSpec) :=
  OpenClaim.holds_of_wide 5 Try.f5 rfl rfl rfl rfl rfl rfl rfl ⟨rfl, rfl, rfl, rfl, rfl⟩ rfl rfl rfl rfl rfl (by kernel_rfl) Try.func5 (by kernel_rfl)
    (of_decide_eq_true (by kernel_rfl)) (by unfold Func.isWrapper; first | (rw [if_pos (by decide +kernel)]; kernel_rfl) | (rw [if_neg (by decide +kernel)]; exact ⟨rfl, rfl⟩))
    (fun os started H enc _ => lifted os started H enc)
theorem proved : Rows.SnapOneSaid := over
end snapOne
/-- The row, for the claim. -/
theorem snapOne_holds : Rows.SnapOneSaid := snapOne.proved
end Go.Proofs.Ytdepcbgjoegkkaa
