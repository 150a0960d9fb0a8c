/- The law CellShifts: a strip one column further on the right has the same cells one column further, if it lies within the picture both times. For all inputs. -/
import Derived.Test.YtjdpmaachehpnaaCellQ
import Derived.Test.YtjdpmaachehpnaaFlatE
import Derived.Test.YtjdpmaachehpnaaFlatS
import Derived.Test.YtjdpmaachehpnaaWm1
import Derived.Test.YtjdpmaachehpnaaRows
import Derived.ProofKit
import Derived.OpenShut
import Derived.ShutString
import Derived.ChangeOld
import Derived.SizedLaws
import Derived.Test.YtjdpmaachehpnaaPEx28
namespace Go.Proofs.Ytjdpmaachehpnaa
open Go Go.RowKit
set_option linter.unusedVariables false
set_option linter.unusedSimpArgs false
namespace Cell
open Go.Proofs.Ytjdpmaachehpnaa.PE Go.Proofs.YtjdpmaachehpnaaW.PrintWords Go.Proofs.YtjdpmaachehpnaaW.PrintLast Go.Proofs.YtjdpmaachehpnaaW.PrintMore
theorem rdS {xs : List Cl} {i : Nat} (h : i < xs.length) : rd_T58 xs (i : Int) = xs[i] := by simp [rd_T58, h]
section
variable {X0 Y0 X1 Y1 w : Int}
theorem shift_lines (h0 : 0 ≤ mn X0 X1) (h1 : mx X0 X1 < w * 65536) : lF (X0 + 65536) (X1 + 65536) = lF X0 X1 + 1 ∧ lL (X0 + 65536) (X1 + 65536) (w + 1) = lL X0 X1 w + 1 := by
  have e1 : mn (X0 + 65536) (X1 + 65536) = mn X0 X1 + 65536 := by unfold mn; (repeat' split) <;> omega
  have e2 : mx (X0 + 65536) (X1 + 65536) = mx X0 X1 + 65536 := by unfold mx; (repeat' split) <;> omega
  unfold lF lL
  rw [e1, e2]
  generalize mn X0 X1 = a at *
  generalize mx X0 X1 = b at *
  unfold mn mx
  (repeat' split) <;> omega
def up (p : Pc) : Pc := ⟨p.f0 + 65536, p.f1, p.f2 + 65536, p.f3⟩
def upC (c : Cl) : Cl := ⟨c.f0 + 1, c.f1⟩
theorem shift_hAt (x : Int) : hAt (X0 + 65536) Y0 (X1 + 65536) Y1 (x + 65536) = hAt X0 Y0 X1 Y1 x := by
  unfold hAt; rw [show x + 65536 - (X0 + 65536) = x - X0 by omega, show X1 + 65536 - (X0 + 65536) = X1 - X0 by omega]
theorem shift_piece (h0 : 0 ≤ mn X0 X1) (h1 : mx X0 X1 < w * 65536) (k : Nat) : piece (X0 + 65536) Y0 (X1 + 65536) Y1 (w + 1) k = up (piece X0 Y0 X1 Y1 w k) := by
  obtain ⟨e1, e2⟩ := shift_lines h0 h1
  have eN : lN (X0 + 65536) (X1 + 65536) (w + 1) = lN X0 X1 w := by unfold lN; rw [e1, e2]; congr 1; omega
  have eK : ∀ i, lK (X0 + 65536) (X1 + 65536) (w + 1) i = lK X0 X1 w i + 1 := fun i => by unfold lK; rw [e1, e2]; (repeat' split) <;> omega
  have eX : ∀ i, pX (X0 + 65536) (X1 + 65536) (w + 1) i = pX X0 X1 w i + 65536 := fun i => by
    unfold pX; rw [eN, eK]; (repeat' split) <;> omega
  have eY : ∀ i, pY (X0 + 65536) Y0 (X1 + 65536) Y1 (w + 1) i = pY X0 Y0 X1 Y1 w i := fun i => by
    unfold pY; rw [eN, eK, show (lK X0 X1 w (i - 1) + 1) * 65536 = lK X0 X1 w (i - 1) * 65536 + 65536 by omega, shift_hAt]
  unfold piece up
  rw [eX, eX, eY, eY]
theorem shift_cell {p : Pc} (h : 0 ≤ mn p.f0 p.f2) : cellOf (w + 1) (up p) = (cellOf w p).map upC := by
  have e1 : mn (p.f0 + 65536) (p.f2 + 65536) = mn p.f0 p.f2 + 65536 := by unfold mn; (repeat' split) <;> omega
  unfold cellOf up
  dsimp only
  rw [e1, show (mn p.f0 p.f2 + 65536) / 65536 = mn p.f0 p.f2 / 65536 + 1 by omega]
  by_cases hc : p.f3 - p.f1 = 0 ∨ mn p.f0 p.f2 / 65536 ≥ w
  · rw [if_pos (by omega), if_pos hc]; rfl
  · rw [if_neg (by omega), if_neg hc, if_neg (by omega), if_neg (by omega)]
    show some _ = some (upC _)
    unfold upC
    congr 3
    congr 1
    omega
theorem shift_cells (hd : Dom X0 Y0 X1 Y1 w) (h0 : 0 ≤ mn X0 X1) (h1 : mx X0 X1 < w * 65536) : cells (X0 + 65536) Y0 (X1 + 65536) Y1 (w + 1) = (cells X0 Y0 X1 Y1 w).map upC := by
  obtain ⟨e1, e2⟩ := shift_lines h0 h1
  have eN : lN (X0 + 65536) (X1 + 65536) (w + 1) = lN X0 X1 w := by unfold lN; rw [e1, e2]; congr 1; omega
  unfold cells cuts
  rw [eN]
  generalize lN X0 X1 w + 1 = n
  induction n with
  | zero => rfl
  | succ n ih =>
    rw [List.range_succ, List.map_append, List.filterMap_append, ih, List.map_append, List.filterMap_append, List.map_append]
    congr 1
    simp only [List.map_cons, List.map_nil]
    rw [shift_piece h0 h1]
    have hp : 0 ≤ mn (piece X0 Y0 X1 Y1 w n).f0 (piece X0 Y0 X1 Y1 w n).f2 := by
      show 0 ≤ mn (pX X0 X1 w n) (pX X0 X1 w (n + 1))
      have a := (pX_in hd n).1
      have b := (pX_in hd (n + 1)).1
      generalize pX X0 X1 w n = u at *
      generalize pX X0 X1 w (n + 1) = v at *
      generalize mn X0 X1 = m at *
      unfold mn; split <;> omega
    have hc := shift_cell (w := w) hp
    generalize piece X0 Y0 X1 Y1 w n = p at *
    simp only [List.filterMap_cons, List.filterMap_nil, hc]
    cases cellOf w p <;> rfl
end
theorem shifts_l0 (xs : List Cl) (hl : xs.length ≤ 1000000) (hx : ∀ x ∈ xs, -1000000 ≤ x.f0 ∧ x.f0 ≤ 1000000) : ∀ (n i k : Nat), i + n = xs.length → n < k →
    pointillistlaw16_CellShifts.l0 k xs (xs.map upC) (xs.length : Int) (i : Int) = some true := by
  intro n
  induction n with
  | zero =>
    intro i k e hk
    obtain ⟨k, rfl⟩ : ∃ m, k = m + 1 := ⟨k - 1, by omega⟩
    simp only [pointillistlaw16_CellShifts.l0]
    rw [if_neg (by omega)]
  | succ n ihn =>
    intro i k e hk
    obtain ⟨k, rfl⟩ : ∃ m, k = m + 1 := ⟨k - 1, by omega⟩
    have hi : i < xs.length := by omega
    have hi2 : i < (xs.map upC).length := by rw [List.length_map]; exact hi
    have hb := hx _ (List.getElem_mem hi)
    have ih := ihn (i + 1) k (by omega) (by omega)
    simp only [pointillistlaw16_CellShifts.l0]
    rw [if_pos (by omega), if_pos (by omega), if_pos (by omega), if_pos (by omega), rdS hi, rdS hi2, List.getElem_map, w64 (x := xs[i].f0 + 1) (by omega) (by omega), if_pos (show (upC xs[i]).f0 = xs[i].f0 + 1 from rfl), if_neg (by simp [upC]), w64 (x := (i : Int) + 1) (by omega) (by omega), show (i : Int) + 1 = ((i + 1 : Nat) : Int) by omega, ih]
theorem cell_f0 {w : Int} {p : Pc} {c : Cl} (hw : 0 ≤ w) (h : cellOf w p = some c) : 0 ≤ c.f0 ∧ c.f0 ≤ w := by
  unfold cellOf at h
  split at h
  · cases h
  · split at h
    · cases h; exact ⟨Int.le_refl _, hw⟩
    · cases h; constructor <;> dsimp only <;> omega
theorem cellshifts (a b c d h : Int) (h0 : 0 ≤ h) (h1 : h ≤ 255) : ∃ k, pointillistlaw16_CellShifts.f k a b c d h = some true := by
  obtain ⟨r, hr, hb⟩ := right_f a b c d
  refine ⟨1100, ?_⟩
  unfold pointillistlaw16_CellShifts.f
  rw [wakes, hr]
  simp only [Option.bind_some, if_true]
  cases r with
  | false => rfl
  | true =>
    rw [if_pos rfl, w64 (x := h) (by omega) (by omega), w64 (x := h * 65536) (by omega) (by omega)]
    by_cases hz : h = 0
    · rw [if_pos hz]; rfl
    rw [if_neg hz]
    by_cases hm : mn a c < 0
    · rw [if_pos hm]; rfl
    rw [if_neg hm]
    by_cases hx : mx a c ≥ h * 65536
    · rw [decide_eq_true hx]; rfl
    rw [decide_eq_false hx]
    obtain ⟨q1, q2, q3, q4⟩ := hb.1 rfl
    have D : Dom a b c d h := ⟨q1, q2, q3, q4, by omega, by omega⟩
    have hac : a < h * 65536 ∧ c < h * 65536 := by unfold mx at hx; split at hx <;> omega
    have D2 : Dom (a + 65536) b (c + 65536) d (h + 1) := ⟨by omega, by omega, q3, q4, by omega, by omega⟩
    have hlen : (cells a b c d h).length ≤ lN a c h + 1 := Nat.le_trans (List.length_filterMap_le _ _) (by rw [cuts_len]; omega)
    have hn := lN_le D
    simp only [pointillistlaw16_CellShifts.j0]
    rw [if_neg (by decide), w64 (x := a + 65536) (by omega) (by omega), w64 (x := c + 65536) (by omega) (by omega), w64 (x := h + 1) (by omega) (by omega), PE.cells_f D (by omega) (by omega)]
    simp only [Option.bind_some]
    rw [PE.cells_f D2 (by omega) (by omega), shift_cells D (by omega) (by omega)]
    simp only [Option.bind_some]
    rw [List.take_of_length_le (show (cells a b c d h).length ≤ (999 : Int).toNat by simp; omega), List.take_of_length_le (show ((cells a b c d h).map upC).length ≤ (999 : Int).toNat by simp; omega), if_pos (by simp)]
    refine shifts_l0 _ (by omega) (fun x hx => ?_) (cells a b c d h).length 0 1099 (by omega) (by omega)
    obtain ⟨p, _, hp⟩ := List.mem_filterMap.1 hx
    have := cell_f0 h0 hp
    omega
theorem cellshifts_row (a b c d h : Int) (h0 : 0 ≤ h) (h1 : h ≤ 255) (w : World) : Calls Try.prog 11 #[.agg #[.int .i64 a, .int .i64 b, .int .i64 c, .int .i64 d], .int .u8 h] w fun e w' => e = .returned (.bool true) ∧ Below w.heap.size w w' := by
  obtain ⟨k, hk⟩ := cellshifts a b c d h h0 h1
  exact pointillistlaw16_CellShifts.calls k a b c d h true w hk
end Cell
namespace cellShifts
open Go.ChangeShapes Go.WideShapes Go.ChangeAt Go.RowKit
open Go.ChangeMaps (open_string shut_string)
theorem own : ownKnob Try.prog.godebug = none := by kernel_rfl
theorem laidOut : laidOutB Try.prog = true := by kernel_rfl
set_option maxRecDepth 100000 in
theorem lifted (os : Os) (started : os.Started) (H : Type) (enc : TypeId × Value → H) :
    ReturnsInHanded {} Try.checked os 11 .any (Rows.cellShiftsSpec.pre6 enc Try.prog Try.f11 Rows.cellShiftsRow.domain false) (Rows.cellShiftsSpec.post enc Try.prog Try.f11 false true false false) := by
  refine returnsInHanded_of_change_sized (C := Try.checked) own started (by kernel_rfl) Try.func11
    (ChangeSpec.witness6 (enc := enc) (C := Try.checked) false ⟨#[], #[.agg #[.int .i64 0, .int .i64 0, .int .i64 0, .int .i64 0], .int .u8 0], []⟩ 8 (by kernel_rfl) (by kernel_rfl) (by kernel_rfl) (by kernel_rfl)) ?_
  intro W base args ds gs before hval0 hW hcnd hsz0 _
  have hval : ∀ (j : Nat) t v, Try.f11.params[j]? = some t → args[j]? = some v → Value.okWide Try.prog W .any base t v := hval0
  have hW' := hW
  obtain ⟨p, q, hA0, hV, rfl, hfz, hnd⟩ := hW
  have hA : DataW.TrodAll enc Try.prog W 0 (fun _ => true) true Try.f11.params.toList args.toList ds p := hA0
  have hlt : ∀ x ∈ p, x.block < W.heap.size := fun x hx => by simpa using hW'.lt x (by simp [hx])
  have hready : ∀ t ∈ Try.f11.params.toList, Try.prog.readableRec t = true ∧ t < Try.prog.types.size := by
    rw [Try.params11]
    intro t ht
    simp only [List.mem_cons, List.not_mem_nil, or_false] at ht
    rcases ht with rfl | rfl <;> exact ⟨by kernel_rfl, of_decide_eq_true (by kernel_rfl)⟩
  have hAk := hA
  rw [Try.params11] at hA hval
  obtain ⟨v0, vs0, d0, ds0, p0, q0, hargs, rfl, rfl, h0, r0⟩ := trodAll_cons hA
  obtain ⟨v1, vs1, d1, ds1, p1, q1, rfl, rfl, rfl, h1, r1⟩ := trodAll_cons r0
  obtain ⟨rfl, rfl, rfl⟩ := trodAll_nil r1
  obtain rfl : args = #[v0, v1] := by cases args; simp_all
  obtain ⟨rfl, rfl⟩ := trodVars_none hV
  obtain ⟨c0, m0, rfl, i0⟩ := Open.Flat.open_agg flatStrip (.inl ⟨_, Try.underlying32⟩) (hval 0 32 v0 rfl rfl) h0
  obtain ⟨n0_0, n0_1, n0_2, n0_3, rfl, x0_0, x0_1, x0_2, x0_3⟩ := i0.of4
  obtain ⟨a1, rfl, rfl, rfl, w1⟩ := open_int Try.underlying5 (hval 1 5 v1 rfl rfl) h1
  clear hA0 hval0 hsz0
  refine (Cell.cellshifts_row n0_0 n0_1 n0_2 n0_3 a1 (Num.wf_u8 w1).1 (Num.wf_u8 w1).2 W).mono fun e W' ⟨he, bel⟩ => ?_
  subst he
  exact ⟨_, rfl, _, _, _, [], _, [], hW', trodAll_mk1 (shut_bool Try.underlying4 _), Open.trodAll_below laidOut bel hready hAk hlt, rfl, bel.frame _, fun h => by cases h⟩
theorem over : Rows.cellShiftsRow.holds Try.pinned (OpenSpec.ofChange Rows.cellShiftsSpec) :=
  OpenClaim.holds_of_wide 11 Try.f11 rfl rfl rfl rfl rfl rfl rfl ⟨rfl, rfl, rfl, rfl, rfl⟩ rfl rfl rfl rfl rfl (by kernel_rfl) Try.func11 (by kernel_rfl)
    (of_decide_eq_true (by kernel_rfl)) (by unfold Func.isWrapper; first | (rw [if_pos (by decide +kernel)]; kernel_rfl) | (rw [if_neg (by decide +kernel)]; exact ⟨rfl, rfl⟩))
    (fun os started H enc _ => lifted os started H enc)
theorem proved : Rows.CellShiftsSaid := over
end cellShifts
/-- The row, for the claim. -/
theorem cellShifts_holds : Rows.CellShiftsSaid := cellShifts.proved
end Go.Proofs.Ytjdpmaachehpnaa
