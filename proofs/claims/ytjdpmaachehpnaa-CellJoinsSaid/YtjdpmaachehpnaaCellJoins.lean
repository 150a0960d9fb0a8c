/- The law CellJoins: pieces join, from the strip's beginning to its end, and never go back, neither across nor down. For all inputs. -/
import Derived.Test.YtjdpmaachehpnaaCellQ
import Derived.Test.YtjdpmaachehpnaaMdMore
import Derived.Test.YtjdpmaachehpnaaFlatE
import Derived.Test.YtjdpmaachehpnaaFlatS
import Derived.Test.YtjdpmaachehpnaaWm1
import Derived.Test.YtjdpmaachehpnaaRows
import Derived.ProofKit
import Derived.OpenShut
import Derived.ShutString
import Derived.ChangeOld
import Derived.SizedLaws
import Derived.Test.YtjdpmaachehpnaaPEx27
namespace Go.Proofs.Ytjdpmaachehpnaa.Cell
open Go Go.RowKit Go.Proofs.Ytjdpmaachehpnaa.PE Go.Proofs.YtjdpmaachehpnaaW.PrintWords Go.Proofs.YtjdpmaachehpnaaW.PrintLast Go.Proofs.YtjdpmaachehpnaaW.PrintMore
set_option linter.unusedVariables false
set_option linter.unusedSimpArgs false
section
variable {X0 Y0 X1 Y1 w : Int}
theorem hAt_0 (hne : X0 ≠ X1) : hAt X0 Y0 X1 Y1 X0 = Y0 := by unfold hAt; rw [Int.sub_self, MdMore.md_zero (by omega)]; omega
theorem hAt_1 (hd : Dom X0 Y0 X1 Y1 w) (hne : X0 ≠ X1) : hAt X0 Y0 X1 Y1 X1 = Y1 := by
  have h1 := hd.y0
  have h2 := hd.y1
  unfold hAt; rw [MdMore.md_full (by omega) (by omega)]; omega
theorem pX_rises (hd : Dom X0 Y0 X1 Y1 w) {k : Nat} (hk : k ≤ lN X0 X1 w) : (X0 ≤ X1 → X0 ≤ pX X0 X1 w k ∧ pX X0 X1 w k ≤ pX X0 X1 w (k + 1) ∧ pX X0 X1 w (k + 1) ≤ X1) ∧ (X1 ≤ X0 → X1 ≤ pX X0 X1 w (k + 1) ∧ pX X0 X1 w (k + 1) ≤ pX X0 X1 w k ∧ pX X0 X1 w k ≤ X0) := by
  have hlt := fun i (h : i < lN X0 X1 w) => line_lt hd (i := i) h
  unfold pX
  by_cases h0 : k = 0
  · subst h0
    rw [if_pos rfl, if_neg (by omega)]
    by_cases h1 : 0 + 1 ≤ lN X0 X1 w
    · rw [if_pos h1]; have := hlt 0 (by omega); simp only [Nat.zero_add, Nat.sub_self]; omega
    · rw [if_neg h1]; omega
  · rw [if_neg h0, if_pos hk, if_neg (by omega)]
    have a := hlt (k - 1) (by omega)
    by_cases h1 : k + 1 ≤ lN X0 X1 w
    · rw [if_pos h1]
      have b := hlt (k + 1 - 1) (by omega)
      have e : lK X0 X1 w (k + 1 - 1) = lK X0 X1 w (k - 1) + (if X0 > X1 then -1 else 1) := by unfold lK; split <;> omega
      split at e <;> omega
    · rw [if_neg h1]; omega
theorem pY_hAt (hd : Dom X0 Y0 X1 Y1 w) (hne : X0 ≠ X1) (k : Nat) : pY X0 Y0 X1 Y1 w k = hAt X0 Y0 X1 Y1 (pX X0 X1 w k) := by
  unfold pY pX
  split
  · rw [hAt_0 hne]
  · split
    · rfl
    · rw [hAt_1 hd hne]
theorem pY_rises (hd : Dom X0 Y0 X1 Y1 w) {k : Nat} (hk : k ≤ lN X0 X1 w) : (Y0 ≤ Y1 → pY X0 Y0 X1 Y1 w k ≤ pY X0 Y0 X1 Y1 w (k + 1)) ∧ (Y1 ≤ Y0 → pY X0 Y0 X1 Y1 w (k + 1) ≤ pY X0 Y0 X1 Y1 w k) := by
  by_cases hne : X0 = X1
  · have h0 : lN X0 X1 w = 0 := by
      by_cases hp : 0 < lN X0 X1 w
      · have := line_lt hd hp; omega
      · omega
    obtain rfl : k = 0 := by omega
    unfold pY
    rw [if_pos rfl, if_neg (by omega), if_neg (by omega)]
    exact ⟨fun h => h, fun h => h⟩
  · have h1 := hd.y0
    have h2 := hd.y1
    have h3 := hd.x0
    have h4 := hd.x1
    rw [pY_hAt hd hne, pY_hAt hd hne]
    obtain ⟨p, q⟩ := pX_rises hd hk
    generalize pX X0 X1 w k = a at *
    generalize pX X0 X1 w (k + 1) = b at *
    unfold hAt
    obtain ⟨r, s⟩ := MdMore.md_rises (a := Y1 - Y0) (b := a - X0) (b' := b - X0) (c := X1 - X0) (by omega) (by
      rcases Int.lt_or_gt_of_ne hne with h | h
      · have := p (by omega); omega
      · have := q (by omega); omega)
    exact ⟨fun h => by have := r (by omega); omega, fun h => by have := s (by omega); omega⟩
end
end Go.Proofs.Ytjdpmaachehpnaa.Cell
namespace Go.Proofs.Ytjdpmaachehpnaa
open Go Go.RowKit
set_option linter.unusedVariables false
set_option linter.unusedSimpArgs false
namespace Cell
open Go.Proofs.Ytjdpmaachehpnaa.PE Go.Proofs.YtjdpmaachehpnaaW.PrintWords Go.Proofs.YtjdpmaachehpnaaW.PrintLast Go.Proofs.YtjdpmaachehpnaaW.PrintMore
theorem rdN {xs : List Pc} {i : Nat} (h : i < xs.length) : rd_T32 xs (i : Int) = xs[i] := by simp [rd_T32, h]
theorem rdN0 {xs : List Pc} (h : 0 < xs.length) : rd_T32 xs 0 = xs[0] := rdN (i := 0) h
section
variable {X0 Y0 X1 Y1 w : Int}
theorem cuts_get (i : Nat) (hi : i < (cuts X0 Y0 X1 Y1 w).length) : (cuts X0 Y0 X1 Y1 w)[i] = piece X0 Y0 X1 Y1 w i := by simp [cuts]
theorem joins_l0 (hd : Dom X0 Y0 X1 Y1 w) (hw : w ≤ 255) : ∀ (n i k : Nat), i + n = (cuts X0 Y0 X1 Y1 w).length → 2 * n < k →
    pointillistlaw16_CellJoins.l0 k (cuts X0 Y0 X1 Y1 w) (cuts X0 Y0 X1 Y1 w) ((cuts X0 Y0 X1 Y1 w).length : Int) (i : Int) X0 Y0 X1 Y1 = some true := by
  intro n
  have hs := cuts_short hd
  induction n with
  | zero =>
    intro i k e hk
    obtain ⟨k, rfl⟩ : ∃ m, k = m + 1 := ⟨k - 1, by omega⟩
    simp only [pointillistlaw16_CellJoins.l0]
    rw [if_neg (by omega)]
  | succ n ihn =>
    intro i k e hk
    obtain ⟨k, rfl⟩ : ∃ m, k = m + 2 := ⟨k - 2, by omega⟩
    have hi : i < (cuts X0 Y0 X1 Y1 w).length := by omega
    have hil : i ≤ lN X0 X1 w := by have := hi; rw [cuts_len] at this; omega
    have ih := ihn (i + 1) k (by omega) (by omega)
    clear ihn
    obtain ⟨p1, p2⟩ := pX_rises hd hil
    obtain ⟨p3, p4⟩ := pY_rises hd hil
    have j3 : pointillistlaw16_CellJoins.j3 (k + 1) (cuts X0 Y0 X1 Y1 w) (cuts X0 Y0 X1 Y1 w) ((cuts X0 Y0 X1 Y1 w).length : Int) (i : Int) false X0 Y0 X1 Y1 (pX X0 X1 w i) (pY X0 Y0 X1 Y1 w i) (pX X0 X1 w (i + 1)) (pY X0 Y0 X1 Y1 w (i + 1)) = some true := by
      simp only [pointillistlaw16_CellJoins.j3]
      rw [w64 (x := (i : Int) + 1) (by omega) (by omega), show (i : Int) + 1 = ((i + 1 : Nat) : Int) by omega, ih]
      clear ih
      generalize pX X0 X1 w i = a at *
      generalize pX X0 X1 w (i + 1) = b at *
      generalize pY X0 Y0 X1 Y1 w i = c at *
      generalize pY X0 Y0 X1 Y1 w (i + 1) = f at *
      rw [if_neg (by decide)]
      have q1 := fun h => (p1 h).2.1
      have q2 := fun h => (p2 h).2.1
      clear p1 p2
      (repeat' split) <;> first | rfl | (exfalso; rename_i h1 h2; first | (have := q1 (by omega); omega) | (have := q2 (by omega); omega) | (have := p3 (by omega); omega) | (have := p4 (by omega); omega))
    rw [show k + 2 = (k + 1) + 1 from rfl]
    simp only [pointillistlaw16_CellJoins.l0]
    rw [if_pos (by omega), if_pos (by omega), if_pos (by omega), rdN hi, cuts_get]
    by_cases hz : (i : Int) > 0
    · obtain ⟨j, hj⟩ : ∃ j, i = j + 1 := ⟨i - 1, by omega⟩
      subst hj
      rw [if_pos hz, w64 (x := ((j + 1 : Nat) : Int) - 1) (by omega) (by omega), if_pos (by omega), if_pos (by omega), show ((j + 1 : Nat) : Int) - 1 = (j : Int) by omega, rdN (by omega), cuts_get]
      rw [if_pos (show (piece X0 Y0 X1 Y1 w (j + 1)).f0 = (piece X0 Y0 X1 Y1 w j).f2 from rfl), show ((piece X0 Y0 X1 Y1 w (j + 1)).f1 != (piece X0 Y0 X1 Y1 w j).f3) = false from bne_eq_false_iff_eq.2 rfl]
      exact j3
    · rw [if_neg hz]
      exact j3
end
theorem celljoins (a b c d h : Int) (h0 : 0 ≤ h) (h1 : h ≤ 255) : ∃ k, pointillistlaw16_CellJoins.f k a b c d h = some true := by
  obtain ⟨r, hr, hb⟩ := right_f a b c d
  refine ⟨1100, ?_⟩
  unfold pointillistlaw16_CellJoins.f
  rw [wakes, hr]
  simp only [Option.bind_some, if_true]
  cases r with
  | false => rfl
  | true =>
    rw [if_pos rfl]
    by_cases hz : h = 0
    · rw [hz]; rfl
    obtain ⟨q1, q2, q3, q4⟩ := hb.1 rfl
    have D : Dom a b c d h := ⟨q1, q2, q3, q4, by omega, by omega⟩
    have hn := lN_le D
    have hlen : (cuts a b c d h).length = lN a c h + 1 := cuts_len
    simp only [pointillistlaw16_CellJoins.j0]
    rw [if_neg (by simpa using hz), w64 (x := h) (by omega) (by omega), PE.cuts_f D (by omega) (by omega)]
    simp only [Option.bind_some]
    rw [List.take_of_length_le (show (cuts a b c d h).length ≤ (999 : Int).toNat by simp; omega), if_neg (by omega), if_pos (by omega), w64 (x := ((cuts a b c d h).length : Int) - 1) (by omega) (by omega), rdN0 (by omega), cuts_get]
    rw [if_pos (show (piece a b c d h 0).f0 = a from rfl), if_pos (show (piece a b c d h 0).f1 = b from rfl), if_pos (by omega), if_pos (by omega), show ((cuts a b c d h).length : Int) - 1 = ((lN a c h : Nat) : Int) by omega, rdN (by omega), cuts_get]
    have e1 : (piece a b c d h (lN a c h)).f2 = c := by show pX a c h (lN a c h + 1) = c; unfold pX; rw [if_neg (by omega), if_neg (by omega)]
    have e2 : (piece a b c d h (lN a c h)).f3 = d := by show pY a b c d h (lN a c h + 1) = d; unfold pY; rw [if_neg (by omega), if_neg (by omega)]
    rw [if_pos e1, e2, show (d != d) = false by simp]
    simp only [pointillistlaw16_CellJoins.j1]
    rw [if_neg (by decide)]
    exact joins_l0 D h1 (cuts a b c d h).length 0 1098 (by omega) (by omega)
theorem celljoins_row (a b c d h : Int) (h0 : 0 ≤ h) (h1 : h ≤ 255) (w : World) : Calls Try.prog 10 #[.agg #[.int .i64 a, .int .i64 b, .int .i64 c, .int .i64 d], .int .u8 h] w fun e w' => e = .returned (.bool true) ∧ Below w.heap.size w w' := by
  obtain ⟨k, hk⟩ := celljoins a b c d h h0 h1
  exact pointillistlaw16_CellJoins.calls k a b c d h true w hk
end Cell
namespace cellJoins
open Go.ChangeShapes Go.WideShapes Go.ChangeAt Go.RowKit
open Go.ChangeMaps (open_string shut_string)
theorem own : ownKnob Try.prog.godebug = none := by kernel_rfl
theorem laidOut : laidOutB Try.prog = true := by kernel_rfl
set_option maxRecDepth 100000 in
theorem lifted (os : Os) (started : os.Started) (H : Type) (enc : TypeId × Value → H) :
    ReturnsInHanded {} Try.checked os 10 .any (Rows.cellJoinsSpec.pre6 enc Try.prog Try.f10 Rows.cellJoinsRow.domain false) (Rows.cellJoinsSpec.post enc Try.prog Try.f10 false true false false) := by
  refine returnsInHanded_of_change_sized (C := Try.checked) own started (by kernel_rfl) Try.func10
    (ChangeSpec.witness6 (enc := enc) (C := Try.checked) false ⟨#[], #[.agg #[.int .i64 0, .int .i64 0, .int .i64 0, .int .i64 0], .int .u8 0], []⟩ 8 (by kernel_rfl) (by kernel_rfl) (by kernel_rfl) (by kernel_rfl)) ?_
  intro W base args ds gs before hval0 hW hcnd hsz0 _
  have hval : ∀ (j : Nat) t v, Try.f10.params[j]? = some t → args[j]? = some v → Value.okWide Try.prog W .any base t v := hval0
  have hW' := hW
  obtain ⟨p, q, hA0, hV, rfl, hfz, hnd⟩ := hW
  have hA : DataW.TrodAll enc Try.prog W 0 (fun _ => true) true Try.f10.params.toList args.toList ds p := hA0
  have hlt : ∀ x ∈ p, x.block < W.heap.size := fun x hx => by simpa using hW'.lt x (by simp [hx])
  have hready : ∀ t ∈ Try.f10.params.toList, Try.prog.readableRec t = true ∧ t < Try.prog.types.size := by
    rw [Try.params10]
    intro t ht
    simp only [List.mem_cons, List.not_mem_nil, or_false] at ht
    rcases ht with rfl | rfl <;> exact ⟨by kernel_rfl, of_decide_eq_true (by kernel_rfl)⟩
  have hAk := hA
  rw [Try.params10] at hA hval
  obtain ⟨v0, vs0, d0, ds0, p0, q0, hargs, rfl, rfl, h0, r0⟩ := trodAll_cons hA
  obtain ⟨v1, vs1, d1, ds1, p1, q1, rfl, rfl, rfl, h1, r1⟩ := trodAll_cons r0
  obtain ⟨rfl, rfl, rfl⟩ := trodAll_nil r1
  obtain rfl : args = #[v0, v1] := by cases args; simp_all
  obtain ⟨rfl, rfl⟩ := trodVars_none hV
  obtain ⟨c0, m0, rfl, i0⟩ := Open.Flat.open_agg flatStrip (.inl ⟨_, Try.underlying32⟩) (hval 0 32 v0 rfl rfl) h0
  obtain ⟨n0_0, n0_1, n0_2, n0_3, rfl, x0_0, x0_1, x0_2, x0_3⟩ := i0.of4
  obtain ⟨a1, rfl, rfl, rfl, w1⟩ := open_int Try.underlying5 (hval 1 5 v1 rfl rfl) h1
  clear hA0 hval0 hsz0
  refine (Cell.celljoins_row n0_0 n0_1 n0_2 n0_3 a1 (Num.wf_u8 w1).1 (Num.wf_u8 w1).2 W).mono fun e W' ⟨he, bel⟩ => ?_
  subst he
  exact ⟨_, rfl, _, _, _, [], _, [], hW', trodAll_mk1 (shut_bool Try.underlying4 _), Open.trodAll_below laidOut bel hready hAk hlt, rfl, bel.frame _, fun h => by cases h⟩
theorem over : Rows.cellJoinsRow.holds Try.pinned (OpenSpec.ofChange Rows.cellJoinsSpec) :=
  OpenClaim.holds_of_wide 10 Try.f10 rfl rfl rfl rfl rfl rfl rfl ⟨rfl, rfl, rfl, rfl, rfl⟩ rfl rfl rfl rfl rfl (by kernel_rfl) Try.func10 (by kernel_rfl)
    (of_decide_eq_true (by kernel_rfl)) (by unfold Func.isWrapper; first | (rw [if_pos (by decide +kernel)]; kernel_rfl) | (rw [if_neg (by decide +kernel)]; exact ⟨rfl, rfl⟩))
    (fun os started H enc _ => lifted os started H enc)
theorem proved : Rows.CellJoinsSaid := over
end cellJoins
/-- The row, for the claim. -/
theorem cellJoins_holds : Rows.CellJoinsSaid := cellJoins.proved
end Go.Proofs.Ytjdpmaachehpnaa
