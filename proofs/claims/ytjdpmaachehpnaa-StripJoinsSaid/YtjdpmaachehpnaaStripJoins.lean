/- The law StripJoins: strips join, one row further each; together they go down as far as the edge does within the picture. For all inputs. -/
import Derived.Test.YtjdpmaachehpnaaStripP
import Derived.Test.YtjdpmaachehpnaaFlatE
import Derived.Test.YtjdpmaachehpnaaWm1
import Derived.Test.YtjdpmaachehpnaaRows
import Derived.ProofKit
import Derived.OpenShut
import Derived.ShutString
import Derived.ChangeOld
import Derived.SizedLaws
import Derived.Test.YtjdpmaachehpnaaPEx21
import Derived.Test.YtjdpmaachehpnaaPEx20
namespace Go.Proofs.Ytjdpmaachehpnaa
open Go Go.RowKit
set_option linter.unusedVariables false
set_option linter.unusedSimpArgs false
namespace Strip
open Go.Proofs.Ytjdpmaachehpnaa.PE Go.Proofs.YtjdpmaachehpnaaW.PrintWords Go.Proofs.YtjdpmaachehpnaaW.PrintLast Go.Proofs.YtjdpmaachehpnaaW.PrintMore
theorem rdJ {xs : List Rw} {i : Nat} (h : i < xs.length) : rd_T34 xs (i : Int) = xs[i] := by simp [rd_T34, h]
section
variable {px py qx qy h : Int}
/-- Two strips that follow each other. -/
theorem joins (hd : Dom px py qx qy h) {k : Nat} (hk : k + 1 < sN py qy h) : cl py (sRow py qy h (k + 1)) = cl qy (sRow py qy h k) ∧ sRow py qy h (k + 1) = sRow py qy h k + (if py > qy then -1 else 1) := by
  obtain ⟨a0, a1, a2, a3⟩ := row_bounds hd hk
  obtain ⟨b0, b1, b2, b3⟩ := row_bounds hd (show k < sN py qy h by omega)
  have hne := hd.ne
  have e : sRow py qy h (k + 1) = sRow py qy h k + (if py > qy then -1 else 1) := by unfold sRow; split <;> omega
  refine ⟨?_, e⟩
  split at e
  all_goals
    rw [e] at a0 a1 a2 a3 ⊢
    generalize sRow py qy h k = r at *
    unfold cl
    unfold mx mn at *
    (repeat' split) <;> (repeat' split at a2) <;> (repeat' split at a3) <;> (repeat' split at b2) <;> (repeat' split at b3) <;> omega
/-- How far the first k strips go down. -/
def down (py qy h : Int) : Nat → Int
  | 0 => 0
  | k + 1 => cl qy (sRow py qy h k) - cl py (sRow py qy h 0)
theorem down_succ (hd : Dom px py qx qy h) {k : Nat} (hk : k < sN py qy h) : down py qy h (k + 1) = down py qy h k + (cl qy (sRow py qy h k) - cl py (sRow py qy h k)) := by
  cases k with
  | zero => simp [down]
  | succ k =>
    obtain ⟨e, _⟩ := joins hd hk
    simp only [down]
    rw [e]; omega
theorem down_all (hd : Dom px py qx qy h) : down py qy h (sN py qy h) = mn (mx qy 0) (h * 65536) - mn (mx py 0) (h * 65536) := by
  have h0 := hd.h0
  by_cases hn : 0 < sN py qy h
  · obtain ⟨n, hn'⟩ : ∃ n, sN py qy h = n + 1 := ⟨sN py qy h - 1, by omega⟩
    obtain ⟨a0, a1, a2, a3⟩ := row_bounds hd (show 0 < sN py qy h from hn)
    obtain ⟨b0, b1, b2, b3⟩ := row_bounds hd (show n < sN py qy h by omega)
    have hok : sT py qy < sE py qy h := by
      unfold sN at hn; split at hn
      · assumption
      · omega
    have e1 : cl py (sRow py qy h 0) = mn (mx py 0) (h * 65536) := by
      generalize hr : sRow py qy h 0 = r at *
      unfold sRow sA sB at hr
      unfold cl
      have hT : sT py qy = max (min py qy) 0 := by unfold sT mx mn; (repeat' split) <;> omega
      have hE : sE py qy h = min (max py qy) (h * 65536) := by unfold sE mx mn; (repeat' split) <;> omega
      rw [hT] at hr hok
      rw [hE] at hr hok
      unfold mx mn
      (repeat' split) <;> (repeat' split at hr) <;> omega
    have e2 : cl qy (sRow py qy h n) = mn (mx qy 0) (h * 65536) := by
      generalize hr : sRow py qy h n = r at *
      unfold sN at hn'
      rw [if_pos hok] at hn'
      unfold sRow at hr
      unfold sA sB at hr hn'
      unfold cl
      have hT : sT py qy = max (min py qy) 0 := by unfold sT mx mn; (repeat' split) <;> omega
      have hE : sE py qy h = min (max py qy) (h * 65536) := by unfold sE mx mn; (repeat' split) <;> omega
      rw [hT] at hr hok hn'
      rw [hE] at hr hok hn'
      unfold mx mn
      (repeat' split) <;> (repeat' split at hr) <;> omega
    rw [hn']
    show cl qy (sRow py qy h n) - cl py (sRow py qy h 0) = _
    rw [e1, e2]
  · have hz : sN py qy h = 0 := by omega
    rw [hz]
    show (0 : Int) = _
    have hok : ¬ sT py qy < sE py qy h := fun hok => by have := sN_pos hd hok; omega
    unfold sT sE at hok
    unfold mx mn at *
    (repeat' split) <;> (repeat' split at hok) <;> omega
set_option maxHeartbeats 2000000 in
theorem joins_l0 (hd : Dom px py qx qy h) (hh : h ≤ 255) (st : Int) (hst : st = if py > qy then -1 else 1) : ∀ (n i k : Nat), i + n = sN py qy h → 3 * n < k →
    pointillistlaw15_StripJoins.l0 k h (strips px py qx qy h) (down py qy h i) st (strips px py qx qy h) (sN py qy h : Int) (i : Int) px py qx qy = some true := by
  intro n
  induction n with
  | zero =>
    intro i k e hk
    obtain ⟨k, rfl⟩ : ∃ m, k = m + 1 := ⟨k - 1, by omega⟩
    have h0 := hd.h0
    simp only [pointillistlaw15_StripJoins.l0]
    rw [if_neg (by omega), w64 (x := h) (by omega) (by omega), w64 (x := h * 65536) (by omega) (by omega)]
    unfold pointillistlaw15_within.f
    simp only [Option.bind_some]
    obtain rfl : i = sN py qy h := by omega
    rw [down_all hd, w64]
    · simp
    · unfold mx mn; (repeat' split) <;> omega
    · unfold mx mn; (repeat' split) <;> omega
  | succ n ihn =>
    intro i k e hk
    obtain ⟨k, rfl⟩ : ∃ m, k = m + 3 := ⟨k - 3, by omega⟩
    have h0 := hd.h0
    have hn := sN_le hd
    have hlen : (strips px py qx qy h).length = sN py qy h := strips_len _ _ _ _ _
    have hi : i < (strips px py qx qy h).length := by omega
    have ih := ihn (i + 1) k (by omega) (by omega)
    clear ihn
    have hg : ∀ j (hj : j < (strips px py qx qy h).length), (strips px py qx qy h)[j] = rowS px py qx qy (sRow py qy h j) := fun j hj => by simp [strips]
    obtain ⟨r0, r1, r2, r3⟩ := row_bounds hd (k := i) (by omega)
    obtain ⟨c3, c4, c5, c6⟩ := (cl_in r2 r3).2.2
    clear r2 r3
    obtain ⟨hq0, hq1⟩ := hd.iqy
    obtain ⟨hp0, hp1⟩ := hd.ipy
    have hds : -34359738368 ≤ down py qy h i ∧ down py qy h i ≤ 34359738368 := by
      cases hi2 : i with
      | zero => show (_ : Int) ≤ 0 ∧ (0 : Int) ≤ _; omega
      | succ j =>
        show _ ≤ cl qy (sRow py qy h j) - cl py (sRow py qy h 0) ∧ cl qy (sRow py qy h j) - cl py (sRow py qy h 0) ≤ _
        obtain ⟨u0, u1, u2, u3⟩ := row_bounds hd (k := j) (by omega)
        have v2 := (cl_in u2 u3).2.1
        obtain ⟨t0, t1, t2, t3⟩ := row_bounds hd (k := 0) (by omega)
        have v1 := (cl_in t2 t3).1
        clear u0 u1 u2 u3 t0 t1 t2 t3 c3 c4 c5 c6 r0 r1 hlen hi hk e
        omega
    have hsucc := down_succ hd (k := i) (by omega)
    simp only [pointillistlaw15_StripJoins.l0]
    rw [if_pos (by omega), if_pos (by omega), if_pos (by omega), rdJ hi, hg]
    have f0 : (rowS px py qx qy (sRow py qy h i)).f0 = sRow py qy h i := rfl
    have f1 : (rowS px py qx qy (sRow py qy h i)).f1.f1 = cl py (sRow py qy h i) - sRow py qy h i * 65536 := rfl
    have f3 : (rowS px py qx qy (sRow py qy h i)).f1.f3 = cl qy (sRow py qy h i) - sRow py qy h i * 65536 := rfl
    have f2 : (rowS px py qx qy (sRow py qy h i)).f1.f0 = xAt px py qx qy (cl py (sRow py qy h i)) := rfl
    rw [f0, f1, f3, f2]
    rw [if_neg (by omega), if_neg (by omega), if_neg (by omega), if_neg (by omega), if_neg (by omega), w64 (x := h) (by omega) (by omega), decide_eq_false (by omega)]
    rw [w64 (x := cl qy (sRow py qy h i) - sRow py qy h i * 65536 - (cl py (sRow py qy h i) - sRow py qy h i * 65536)) (by omega) (by omega), w64 (x := down py qy h i + _) (by omega) (by omega)]
    rw [show down py qy h i + (cl qy (sRow py qy h i) - sRow py qy h i * 65536 - (cl py (sRow py qy h i) - sRow py qy h i * 65536)) = down py qy h (i + 1) by omega]
    simp only [pointillistlaw15_StripJoins.j2]
    rw [if_neg (by decide)]
    have hnext : ∀ _ : Unit, wrap64 ((i : Int) + 1) = ((i + 1 : Nat) : Int) := fun _ => by rw [w64 (by omega) (by omega)]; omega
    by_cases hz : (i : Int) > 0
    · obtain ⟨j, hj⟩ : ∃ j, i = j + 1 := ⟨i - 1, by clear hsucc hds f0 f1 f2 f3 ih; omega⟩
      subst hj
      obtain ⟨e1, e2⟩ := joins hd (k := j) (by omega)
      obtain ⟨u0, u1, u2, u3⟩ := row_bounds hd (k := j) (by omega)
      obtain ⟨d3, d4, d5, d6⟩ := (cl_in u2 u3).2.2
      clear u2 u3
      rw [← hst] at e2
      have hs1 : -1 ≤ st ∧ st ≤ 1 := by rw [hst]; split <;> omega
      rw [if_pos hz, w64 (x := ((j + 1 : Nat) : Int) - 1) (by omega) (by omega), if_pos (by omega), if_pos (by omega), show ((j + 1 : Nat) : Int) - 1 = (j : Int) by omega, rdJ (by omega), hg]
      have g0 : (rowS px py qx qy (sRow py qy h j)).f0 = sRow py qy h j := rfl
      have g3 : (rowS px py qx qy (sRow py qy h j)).f1.f3 = cl qy (sRow py qy h j) - sRow py qy h j * 65536 := rfl
      have g2 : (rowS px py qx qy (sRow py qy h j)).f1.f2 = xAt px py qx qy (cl qy (sRow py qy h j)) := rfl
      rw [g0, g2, g3, w64 (x := sRow py qy h j + st) (by omega) (by omega), if_pos e2, if_pos (by rw [e1])]
      rw [w64 (x := sRow py qy h (j + 1) * 65536) (by omega) (by omega), w64 (x := sRow py qy h j * 65536) (by omega) (by omega), w64 (by omega) (by omega), w64 (by omega) (by omega)]
      rw [show (cl py (sRow py qy h (j + 1)) - sRow py qy h (j + 1) * 65536 + sRow py qy h (j + 1) * 65536 != cl qy (sRow py qy h j) - sRow py qy h j * 65536 + sRow py qy h j * 65536) = false by rw [e1, bne_eq_false_iff_eq]; omega]
      simp only [pointillistlaw15_StripJoins.j3]
      rw [if_neg (by decide), hnext (), ih]
    · rw [if_neg hz]
      simp only [pointillistlaw15_StripJoins.j3]
      rw [if_neg (by decide), hnext (), ih]
end
theorem stripjoins (a b c d h : Int) (h0 : 0 ≤ h) (h1 : h ≤ 255) : ∃ k, pointillistlaw15_StripJoins.f k a b c d h = some true := by
  obtain ⟨r, hr, hb⟩ := right_f a b c d (k := 901) (by omega)
  refine ⟨901, ?_⟩
  unfold pointillistlaw15_StripJoins.f
  rw [wakes, hr]
  simp only [Option.bind_some, if_true]
  cases r with
  | false => rfl
  | true =>
    obtain ⟨⟨ha, hb, hc, hd⟩, hne⟩ := hb.1 rfl
    have D : Dom a b c d h := ⟨ha, hb, hc, hd, hne, h0, by omega⟩
    have hn := sN_le D
    have hlen : (strips a b c d h).length = sN b d h := strips_len _ _ _ _ _
    rw [if_pos rfl, w64 (x := h) (by omega) (by omega), told_f D (by omega) (by omega)]
    simp only [Option.bind_some]
    rw [List.take_of_length_le (show (strips a b c d h).length ≤ (999 : Int).toNat by simp; omega)]
    split
    · rename_i hgt
      simp only [pointillistlaw15_StripJoins.j0]
      rw [hlen]
      exact joins_l0 D h1 (-1) (by rw [if_pos hgt]) (sN b d h) 0 900 (by omega) (by omega)
    · rename_i hgt
      simp only [pointillistlaw15_StripJoins.j0]
      rw [hlen]
      exact joins_l0 D h1 1 (by rw [if_neg hgt]) (sN b d h) 0 900 (by omega) (by omega)
theorem stripjoins_row (a b c d h : Int) (h0 : 0 ≤ h) (h1 : h ≤ 255) (w : World) : Calls Try.prog 5 #[.agg #[.int .i64 a, .int .i64 b, .int .i64 c, .int .i64 d], .int .u8 h] w fun e w' => e = .returned (.bool true) ∧ Below w.heap.size w w' := by
  obtain ⟨k, hk⟩ := stripjoins a b c d h h0 h1
  exact pointillistlaw15_StripJoins.calls k a b c d h true w hk
end Strip
namespace stripJoins
open Go.ChangeShapes Go.WideShapes Go.ChangeAt Go.RowKit
open Go.ChangeMaps (open_string shut_string)
theorem own : ownKnob Try.prog.godebug = none := by kernel_rfl
theorem laidOut : laidOutB Try.prog = true := by kernel_rfl
set_option maxRecDepth 100000 in
theorem lifted (os : Os) (started : os.Started) (H : Type) (enc : TypeId × Value → H) :
    ReturnsInHanded {} Try.checked os 5 .any (Rows.stripJoinsSpec.pre6 enc Try.prog Try.f5 Rows.stripJoinsRow.domain false) (Rows.stripJoinsSpec.post enc Try.prog Try.f5 false true false false) := by
  refine returnsInHanded_of_change_sized (C := Try.checked) own started (by kernel_rfl) Try.func5
    (ChangeSpec.witness6 (enc := enc) (C := Try.checked) false ⟨#[], #[.agg #[.int .i64 0, .int .i64 0, .int .i64 0, .int .i64 0], .int .u8 0], []⟩ 8 (by kernel_rfl) (by kernel_rfl) (by kernel_rfl) (by kernel_rfl)) ?_
  intro W base args ds gs before hval0 hW hcnd hsz0 _
  have hval : ∀ (j : Nat) t v, Try.f5.params[j]? = some t → args[j]? = some v → Value.okWide Try.prog W .any base t v := hval0
  have hW' := hW
  obtain ⟨p, q, hA0, hV, rfl, hfz, hnd⟩ := hW
  have hA : DataW.TrodAll enc Try.prog W 0 (fun _ => true) true Try.f5.params.toList args.toList ds p := hA0
  have hlt : ∀ x ∈ p, x.block < W.heap.size := fun x hx => by simpa using hW'.lt x (by simp [hx])
  have hready : ∀ t ∈ Try.f5.params.toList, Try.prog.readableRec t = true ∧ t < Try.prog.types.size := by
    rw [Try.params5]
    intro t ht
    simp only [List.mem_cons, List.not_mem_nil, or_false] at ht
    rcases ht with rfl | rfl <;> exact ⟨by kernel_rfl, of_decide_eq_true (by kernel_rfl)⟩
  have hAk := hA
  rw [Try.params5] at hA hval
  obtain ⟨v0, vs0, d0, ds0, p0, q0, hargs, rfl, rfl, h0, r0⟩ := trodAll_cons hA
  obtain ⟨v1, vs1, d1, ds1, p1, q1, rfl, rfl, rfl, h1, r1⟩ := trodAll_cons r0
  obtain ⟨rfl, rfl, rfl⟩ := trodAll_nil r1
  obtain rfl : args = #[v0, v1] := by cases args; simp_all
  obtain ⟨rfl, rfl⟩ := trodVars_none hV
  obtain ⟨c0, m0, rfl, i0⟩ := Open.Flat.open_agg flatEdge (.inl ⟨_, Try.underlying25⟩) (hval 0 25 v0 rfl rfl) h0
  obtain ⟨n0_0, n0_1, n0_2, n0_3, rfl, x0_0, x0_1, x0_2, x0_3⟩ := i0.of4
  obtain ⟨a1, rfl, rfl, rfl, w1⟩ := open_int Try.underlying5 (hval 1 5 v1 rfl rfl) h1
  clear hA0 hval0 hsz0
  refine (Strip.stripjoins_row n0_0 n0_1 n0_2 n0_3 a1 (Num.wf_u8 w1).1 (Num.wf_u8 w1).2 W).mono fun e W' ⟨he, bel⟩ => ?_
  subst he
  exact ⟨_, rfl, _, _, _, [], _, [], hW', trodAll_mk1 (shut_bool Try.underlying4 _), Open.trodAll_below laidOut bel hready hAk hlt, rfl, bel.frame _, fun h => by cases h⟩
theorem over : Rows.stripJoinsRow.holds Try.pinned (OpenSpec.ofChange Rows.stripJoinsSpec) :=
  OpenClaim.holds_of_wide 5 Try.f5 rfl rfl rfl rfl rfl rfl rfl ⟨rfl, rfl, rfl, rfl, rfl⟩ rfl rfl rfl rfl rfl (by kernel_rfl) Try.func5 (by kernel_rfl)
    (of_decide_eq_true (by kernel_rfl)) (by unfold Func.isWrapper; first | (rw [if_pos (by decide +kernel)]; kernel_rfl) | (rw [if_neg (by decide +kernel)]; exact ⟨rfl, rfl⟩))
    (fun os started H enc _ => lifted os started H enc)
theorem proved : Rows.StripJoinsSaid := over
end stripJoins
/-- The row, for the claim. -/
theorem stripJoins_holds : Rows.StripJoinsSaid := stripJoins.proved
end Go.Proofs.Ytjdpmaachehpnaa
