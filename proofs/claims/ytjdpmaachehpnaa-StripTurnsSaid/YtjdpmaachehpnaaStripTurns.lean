/- The law StripTurns: of an edge turned about the strips come in the other order, each from its end to its beginning, but that an X may lie one 2^16th beside. For all inputs. -/
import Derived.Test.YtjdpmaachehpnaaStripP
import Derived.Test.YtjdpmaachehpnaaFlatE
import Derived.Test.YtjdpmaachehpnaaWm1
import Derived.Test.YtjdpmaachehpnaaRows
import Derived.ProofKit
import Derived.OpenShut
import Derived.ShutString
import Derived.ChangeOld
import Derived.SizedLaws
import Derived.Test.YtjdpmaachehpnaaPEx23
namespace Go.Proofs.Ytjdpmaachehpnaa
open Go Go.RowKit
set_option linter.unusedVariables false
set_option linter.unusedSimpArgs false
namespace Strip
open Go.Proofs.Ytjdpmaachehpnaa.PE Go.Proofs.YtjdpmaachehpnaaW.PrintWords Go.Proofs.YtjdpmaachehpnaaW.PrintLast Go.Proofs.YtjdpmaachehpnaaW.PrintMore
theorem rdT {xs : List Rw} {i : Nat} (h : i < xs.length) : rd_T34 xs (i : Int) = xs[i] := by simp [rd_T34, h]
theorem near_shift {a b c : Int} (hc : 0 < c) : Wide.near (a * b + c * b) c = Wide.near (a * b) c + b := by
  unfold Wide.near
  rw [show 2 * (a * b + c * b) + c = (2 * (a * b) + c) + b * (2 * c) by rw [Int.mul_add, show b * (2 * c) = 2 * (c * b) by rw [Int.mul_left_comm, Int.mul_comm b c]]; omega, Int.add_mul_ediv_right _ _ (by omega)]
theorem near_from {a y c : Int} (hc : 0 < c) : Wide.near (-a * (y - c)) c = Wide.near (-a * y) c + a := by
  unfold Wide.near
  have e1 : -a * (y - c) = -a * y + a * c := by rw [Int.mul_sub, Int.neg_mul a c]; omega
  rw [e1, show 2 * (-a * y + a * c) + c = (2 * (-a * y) + c) + a * (2 * c) by rw [Int.mul_left_comm a 2 c]; omega, Int.add_mul_ediv_right _ _ (by omega)]
section
variable {px py qx qy h : Int}
theorem fit_md {a b c : Int} (ha : -1152921504606846976 ≤ a ∧ a ≤ 1152921504606846976) (h : (0 < c ∧ 0 ≤ b ∧ b ≤ c) ∨ (c < 0 ∧ c ≤ b ∧ b ≤ 0)) : Wide.mulDivV a b c = if c < 0 then Wide.near (a * -b) (-c) else Wide.near (a * b) c := by
  unfold Wide.mulDivV Wide.fitV
  rcases h with ⟨hc, hb, hbc⟩ | ⟨hc, hb, hbc⟩
  · obtain ⟨p, q⟩ := near_share (a := a) hc hb hbc
    simp only [show ¬ c = 0 by omega, show ¬ c < 0 by omega, if_false]
    rw [if_pos (by have := p; have := q; omega)]
  · obtain ⟨p, q⟩ := near_share (a := a) (b := -b) (c := -c) (by omega) (by omega) (by omega)
    simp only [show ¬ c = 0 by omega, hc, if_true, if_false]
    rw [show -(a * b) = a * -b by rw [Int.mul_neg]]
    rw [if_pos (by have := p; have := q; omega)]
/-- The X at a height is the same from either end. -/
theorem xAt_swap (hd : Dom px py qx qy h) {y : Int} (hy : (py ≤ y ∧ y ≤ qy) ∨ (qy ≤ y ∧ y ≤ py)) : xAt qx qy px py y = xAt px py qx qy y := by
  have hne := hd.ne
  obtain ⟨h1, h2⟩ := hd.ipx
  obtain ⟨h3, h4⟩ := hd.iqx
  unfold xAt
  rw [fit_md (a := px - qx) (by omega) (by omega), fit_md (a := qx - px) (by omega) (by omega)]
  by_cases hlt : py < qy
  · rw [if_pos (by omega), if_neg (by omega)]
    have e := near_from (a := px - qx) (y := y - py) (c := qy - py) (by omega)
    rw [show -(py - qy) = qy - py by omega, show (px - qx) * -(y - qy) = -(px - qx) * (y - py - (qy - py)) by rw [Int.mul_neg, Int.neg_mul, show y - py - (qy - py) = y - qy by omega], e, show -(px - qx) = qx - px by omega]
    omega
  · rw [if_neg (by omega), if_pos (by omega)]
    have e := near_from (a := qx - px) (y := y - qy) (c := py - qy) (by omega)
    rw [show -(qy - py) = py - qy by omega, show (qx - px) * -(y - py) = -(qx - px) * (y - qy - (py - qy)) by rw [Int.mul_neg, Int.neg_mul, show y - qy - (py - qy) = y - py by omega], e, show -(qx - px) = px - qx by omega]
    omega
theorem turns_get (hd : Dom px py qx qy h) {i : Nat} (hi : i < sN py qy h) (hi' : sN py qy h - 1 - i < (strips qx qy px py h).length) : (strips qx qy px py h)[sN py qy h - 1 - i] = ⟨sRow py qy h i, ⟨(rowS px py qx qy (sRow py qy h i)).f1.f2, (rowS px py qx qy (sRow py qy h i)).f1.f3, (rowS px py qx qy (sRow py qy h i)).f1.f0, (rowS px py qx qy (sRow py qy h i)).f1.f1⟩⟩ := by
  obtain ⟨r0, r1, r2, r3⟩ := row_bounds hd hi
  obtain ⟨c1, c2, _⟩ := cl_in r2 r3
  have : (strips qx qy px py h)[sN py qy h - 1 - i] = rowS qx qy px py (sRow qy py h (sN py qy h - 1 - i)) := by simp [strips]
  rw [this, row_swap hd.ne hi]
  unfold rowS
  rw [xAt_swap hd c1, xAt_swap hd c2]
theorem turns_l0 (hd : Dom px py qx qy h) (hh : h ≤ 255) : ∀ (n i k : Nat), i + n = sN py qy h → n < k →
    pointillistlaw15_StripTurns.l0 k (strips qx qy px py h) (strips px py qx qy h) (sN py qy h : Int) (i : Int) = some true
  | 0, i, k, e, hk => by
    obtain ⟨k, rfl⟩ : ∃ m, k = m + 1 := ⟨k - 1, by omega⟩
    simp only [pointillistlaw15_StripTurns.l0]
    rw [if_neg (by omega)]
  | n + 1, i, k, e, hk => by
    obtain ⟨k, rfl⟩ : ∃ m, k = m + 1 := ⟨k - 1, by omega⟩
    have hn := sN_le hd
    have hlen : (strips px py qx qy h).length = sN py qy h := strips_len _ _ _ _ _
    have hlen2 : (strips qx qy px py h).length = sN py qy h := by rw [strips_len, sN_swap (py := py) (qy := qy)]
    have hi : i < (strips px py qx qy h).length := by omega
    have ih := turns_l0 hd hh n (i + 1) k (by omega) (by omega)
    have hg : (strips px py qx qy h)[i] = rowS px py qx qy (sRow py qy h i) := by simp [strips]
    have hj : sN py qy h - 1 - i < (strips qx qy px py h).length := by omega
    simp only [pointillistlaw15_StripTurns.l0]
    rw [hlen2, hlen, w64 (x := (sN py qy h : Int) - 1) (by omega) (by omega), w64 (x := (sN py qy h : Int) - 1 - i) (by omega) (by omega)]
    rw [if_pos (by omega), if_pos (by omega), if_pos (by omega), if_pos (by omega), if_pos (by omega), rdT hi, show (sN py qy h : Int) - 1 - i = ((sN py qy h - 1 - i : Nat) : Int) by omega, rdT hj, turns_get hd (by omega) hj, hg]
    have hb : ∀ x : Int, -68719476736 ≤ x ∧ x ≤ 68719476736 → pointillistlaw15_beside.f x x = some true := fun x hx => by
      unfold pointillistlaw15_beside.f
      rw [w64 (x := x - x) (by omega) (by omega)]
      simp
    obtain ⟨r0, r1, r2, r3⟩ := row_bounds hd (k := i) (by omega)
    obtain ⟨c1, c2, _⟩ := cl_in r2 r3
    obtain ⟨p1, q1⟩ := xAt_in hd c1
    obtain ⟨p2, q2⟩ := xAt_in hd c2
    obtain ⟨h1, h2⟩ := hd.ipx
    obtain ⟨h3, h4⟩ := hd.iqx
    dsimp only
    rw [if_pos (show (rowS px py qx qy (sRow py qy h i)).f0 = sRow py qy h i from rfl), if_pos rfl, if_pos rfl, hb _ (by show _ ≤ xAt px py qx qy (cl py (sRow py qy h i)) ∧ xAt px py qx qy (cl py (sRow py qy h i)) ≤ _; have := p1; have := q1; omega)]
    simp only [Option.bind_some, if_true]
    rw [hb _ (by show _ ≤ xAt px py qx qy (cl qy (sRow py qy h i)) ∧ xAt px py qx qy (cl qy (sRow py qy h i)) ≤ _; have := p2; have := q2; omega)]
    simp only [Option.bind_some, if_true]
    rw [w64 (x := (i : Int) + 1) (by omega) (by omega), show (i : Int) + 1 = ((i + 1 : Nat) : Int) by omega, ih]
end
theorem stripturns (a b c d h : Int) (h0 : 0 ≤ h) (h1 : h ≤ 255) : ∃ k, pointillistlaw15_StripTurns.f k a b c d h = some true := by
  obtain ⟨r, hr, hb⟩ := right_f a b c d (k := 300) (by omega)
  refine ⟨300, ?_⟩
  unfold pointillistlaw15_StripTurns.f
  rw [wakes, hr]
  simp only [Option.bind_some, if_true]
  cases r with
  | false => rfl
  | true =>
    obtain ⟨⟨ha, hb, hc, hd⟩, hne⟩ := hb.1 rfl
    have D : Dom a b c d h := ⟨ha, hb, hc, hd, hne, h0, by omega⟩
    have hn := sN_le D
    have hlen : (strips a b c d h).length = sN b d h := strips_len _ _ _ _ _
    have hlen2 : (strips c d a b h).length = sN b d h := by rw [strips_len, sN_swap (py := b) (qy := d)]
    rw [if_pos rfl, w64 (x := h) (by omega) (by omega), told_f D (by omega) (by omega), told_f D.swap (by omega) (by omega)]
    simp only [Option.bind_some]
    rw [List.take_of_length_le (show (strips a b c d h).length ≤ (999 : Int).toNat by simp; omega), List.take_of_length_le (show (strips c d a b h).length ≤ (999 : Int).toNat by simp; omega), hlen, hlen2, if_pos rfl]
    exact turns_l0 D h1 (sN b d h) 0 300 (by omega) (by omega)
theorem stripturns_row (a b c d h : Int) (h0 : 0 ≤ h) (h1 : h ≤ 255) (w : World) : Calls Try.prog 6 #[.agg #[.int .i64 a, .int .i64 b, .int .i64 c, .int .i64 d], .int .u8 h] w fun e w' => e = .returned (.bool true) ∧ Below w.heap.size w w' := by
  obtain ⟨k, hk⟩ := stripturns a b c d h h0 h1
  exact pointillistlaw15_StripTurns.calls k a b c d h true w hk
end Strip
namespace stripTurns
open Go.ChangeShapes Go.WideShapes Go.ChangeAt Go.RowKit
open Go.ChangeMaps (open_string shut_string)
theorem own : ownKnob Try.prog.godebug = none := by kernel_rfl
theorem laidOut : laidOutB Try.prog = true := by kernel_rfl
set_option maxRecDepth 100000 in
theorem lifted (os : Os) (started : os.Started) (H : Type) (enc : TypeId × Value → H) :
    ReturnsInHanded {} Try.checked os 6 .any (Rows.stripTurnsSpec.pre6 enc Try.prog Try.f6 Rows.stripTurnsRow.domain false) (Rows.stripTurnsSpec.post enc Try.prog Try.f6 false true false false) := by
  refine returnsInHanded_of_change_sized (C := Try.checked) own started (by kernel_rfl) Try.func6
    (ChangeSpec.witness6 (enc := enc) (C := Try.checked) false ⟨#[], #[.agg #[.int .i64 0, .int .i64 0, .int .i64 0, .int .i64 0], .int .u8 0], []⟩ 8 (by kernel_rfl) (by kernel_rfl) (by kernel_rfl) (by kernel_rfl)) ?_
  intro W base args ds gs before hval0 hW hcnd hsz0 _
  have hval : ∀ (j : Nat) t v, Try.f6.params[j]? = some t → args[j]? = some v → Value.okWide Try.prog W .any base t v := hval0
  have hW' := hW
  obtain ⟨p, q, hA0, hV, rfl, hfz, hnd⟩ := hW
  have hA : DataW.TrodAll enc Try.prog W 0 (fun _ => true) true Try.f6.params.toList args.toList ds p := hA0
  have hlt : ∀ x ∈ p, x.block < W.heap.size := fun x hx => by simpa using hW'.lt x (by simp [hx])
  have hready : ∀ t ∈ Try.f6.params.toList, Try.prog.readableRec t = true ∧ t < Try.prog.types.size := by
    rw [Try.params6]
    intro t ht
    simp only [List.mem_cons, List.not_mem_nil, or_false] at ht
    rcases ht with rfl | rfl <;> exact ⟨by kernel_rfl, of_decide_eq_true (by kernel_rfl)⟩
  have hAk := hA
  rw [Try.params6] at hA hval
  obtain ⟨v0, vs0, d0, ds0, p0, q0, hargs, rfl, rfl, h0, r0⟩ := trodAll_cons hA
  obtain ⟨v1, vs1, d1, ds1, p1, q1, rfl, rfl, rfl, h1, r1⟩ := trodAll_cons r0
  obtain ⟨rfl, rfl, rfl⟩ := trodAll_nil r1
  obtain rfl : args = #[v0, v1] := by cases args; simp_all
  obtain ⟨rfl, rfl⟩ := trodVars_none hV
  obtain ⟨c0, m0, rfl, i0⟩ := Open.Flat.open_agg flatEdge (.inl ⟨_, Try.underlying25⟩) (hval 0 25 v0 rfl rfl) h0
  obtain ⟨n0_0, n0_1, n0_2, n0_3, rfl, x0_0, x0_1, x0_2, x0_3⟩ := i0.of4
  obtain ⟨a1, rfl, rfl, rfl, w1⟩ := open_int Try.underlying5 (hval 1 5 v1 rfl rfl) h1
  clear hA0 hval0 hsz0
  refine (Strip.stripturns_row n0_0 n0_1 n0_2 n0_3 a1 (Num.wf_u8 w1).1 (Num.wf_u8 w1).2 W).mono fun e W' ⟨he, bel⟩ => ?_
  subst he
  exact ⟨_, rfl, _, _, _, [], _, [], hW', trodAll_mk1 (shut_bool Try.underlying4 _), Open.trodAll_below laidOut bel hready hAk hlt, rfl, bel.frame _, fun h => by cases h⟩
theorem over : Rows.stripTurnsRow.holds Try.pinned (OpenSpec.ofChange Rows.stripTurnsSpec) :=
  OpenClaim.holds_of_wide 6 Try.f6 rfl rfl rfl rfl rfl rfl rfl ⟨rfl, rfl, rfl, rfl, rfl⟩ rfl rfl rfl rfl rfl (by kernel_rfl) Try.func6 (by kernel_rfl)
    (of_decide_eq_true (by kernel_rfl)) (by unfold Func.isWrapper; first | (rw [if_pos (by decide +kernel)]; kernel_rfl) | (rw [if_neg (by decide +kernel)]; exact ⟨rfl, rfl⟩))
    (fun os started H enc _ => lifted os started H enc)
theorem proved : Rows.StripTurnsSaid := over
end stripTurns
/-- The row, for the claim. -/
theorem stripTurns_holds : Rows.StripTurnsSaid := stripTurns.proved
end Go.Proofs.Ytjdpmaachehpnaa
