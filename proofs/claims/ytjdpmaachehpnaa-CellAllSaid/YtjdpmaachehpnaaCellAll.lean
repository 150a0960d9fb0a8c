/- The law CellAll: the cells of any strip are the document's, one by one, up to where one stops. For all inputs. -/
import Derived.Test.YtjdpmaachehpnaaCellQ
import Derived.Test.YtjdpmaachehpnaaFlatE
import Derived.Test.YtjdpmaachehpnaaFlatS
import Derived.Test.YtjdpmaachehpnaaWm1
import Derived.Test.YtjdpmaachehpnaaRows
import Derived.ProofKit
import Derived.OpenShut
import Derived.ShutString
import Derived.ChangeOld
import Derived.SizedLaws
import Derived.Test.YtjdpmaachehpnaaPEx26
namespace Go.Proofs.Ytjdpmaachehpnaa
open Go Go.RowKit
set_option linter.unusedVariables false
set_option linter.unusedSimpArgs false
namespace Cell
open Go.Proofs.Ytjdpmaachehpnaa.PE Go.Proofs.YtjdpmaachehpnaaW.PrintWords Go.Proofs.YtjdpmaachehpnaaW.PrintLast Go.Proofs.YtjdpmaachehpnaaW.PrintMore
theorem rdC {xs : List Cl} {i : Nat} (h : i < xs.length) : rd_T58 xs (i : Int) = xs[i] := by simp [rd_T58, h]
theorem cells_law_l0 (xs : List Cl) (hl : xs.length ≤ 1000000) (m : Nat) (hm : m ≤ xs.length) : ∀ (n i k : Nat), i + n = xs.length → n < k →
    pointillistlaw16_CellAll.l0 k xs (m : Int) xs (xs.take m) (xs.length : Int) (i : Int) = some true := by
  intro n
  induction n with
  | zero =>
    intro i k e hk
    obtain ⟨k, rfl⟩ : ∃ m, k = m + 1 := ⟨k - 1, by omega⟩
    simp only [pointillistlaw16_CellAll.l0]
    rw [if_neg (by omega)]
  | succ n ihn =>
    intro i k e hk
    obtain ⟨k, rfl⟩ : ∃ m, k = m + 1 := ⟨k - 1, by omega⟩
    have hi : i < xs.length := by omega
    have ih := ihn (i + 1) k (by omega) (by omega)
    simp only [pointillistlaw16_CellAll.l0]
    rw [if_pos (by omega), if_pos (by omega), if_pos (by omega), if_pos (by omega), rdC hi, if_neg (by simp), w64 (x := (i : Int) + 1) (by omega) (by omega), show (i : Int) + 1 = ((i + 1 : Nat) : Int) by omega, ih]
    split
    · have hm2 : i < (xs.take m).length := by rw [List.length_take]; omega
      rw [if_pos (by omega), rdC hm2, List.getElem_take, if_neg (by simp)]
    · rfl
theorem cellall (a b c d h s : Int) (h0 : 0 ≤ h) (h1 : h ≤ 255) (s0 : 0 ≤ s) (s1 : s ≤ 255) : ∃ k, pointillistlaw16_CellAll.f k a b c d h s = some true := by
  obtain ⟨r, hr, hb⟩ := right_f a b c d
  refine ⟨1100, ?_⟩
  unfold pointillistlaw16_CellAll.f
  rw [wakes, hr]
  simp only [Option.bind_some, if_true]
  cases r with
  | false => rfl
  | true =>
    rw [if_pos rfl]
    by_cases hz : h = 0
    · rw [hz]; rfl
    obtain ⟨q1, q2, q3, q4⟩ := hb.1 rfl
    have D : Dom a b c d h := ⟨q1, q2, q3, q4, by omega, by omega⟩
    have hn := lN_le D
    have hlen : (cells a b c d h).length ≤ lN a c h + 1 := Nat.le_trans (List.length_filterMap_le _ _) (by rw [cuts_len]; omega)
    simp only [pointillistlaw16_CellAll.j0]
    rw [if_neg (by simpa using hz), w64 (x := h) (by omega) (by omega), w64 (x := s) (by omega) (by omega), Cell.all_f D (by omega), PE.cells_f D (by omega) (by omega)]
    simp only [Option.bind_some]
    obtain ⟨m, hm⟩ : ∃ m : Nat, mn s ((cells a b c d h).length : Int) = m := ⟨(mn s ((cells a b c d h).length : Int)).toNat, by unfold mn; split <;> omega⟩
    have hm2 : m ≤ (cells a b c d h).length := by unfold mn at hm; split at hm <;> omega
    rw [hm, PE.cells_f D (by omega) (by omega)]
    simp only [Option.bind_some]
    rw [List.take_of_length_le (show (cells a b c d h).length ≤ (999 : Int).toNat by simp; omega), if_pos rfl, Int.toNat_natCast]
    simp only [pointillistlaw16_CellAll.j1]
    rw [if_neg (by simp [List.length_take]; omega)]
    exact cells_law_l0 _ (by omega) m hm2 (cells a b c d h).length 0 1098 (by omega) (by omega)
theorem cellall_row (a b c d h s : Int) (h0 : 0 ≤ h) (h1 : h ≤ 255) (s0 : 0 ≤ s) (s1 : s ≤ 255) (w : World) : Calls Try.prog 9 #[.agg #[.int .i64 a, .int .i64 b, .int .i64 c, .int .i64 d], .int .u8 h, .int .u8 s] w fun e w' => e = .returned (.bool true) ∧ Below w.heap.size w w' := by
  obtain ⟨k, hk⟩ := cellall a b c d h s h0 h1 s0 s1
  exact pointillistlaw16_CellAll.calls k a b c d h s true w hk
end Cell
namespace cellAll
open Go.ChangeShapes Go.WideShapes Go.ChangeAt Go.RowKit
open Go.ChangeMaps (open_string shut_string)
theorem own : ownKnob Try.prog.godebug = none := by kernel_rfl
theorem laidOut : laidOutB Try.prog = true := by kernel_rfl
set_option maxRecDepth 100000 in
theorem lifted (os : Os) (started : os.Started) (H : Type) (enc : TypeId × Value → H) :
    ReturnsInHanded {} Try.checked os 9 .any (Rows.cellAllSpec.pre6 enc Try.prog Try.f9 Rows.cellAllRow.domain false) (Rows.cellAllSpec.post enc Try.prog Try.f9 false true false false) := by
  refine returnsInHanded_of_change_sized (C := Try.checked) own started (by kernel_rfl) Try.func9
    (ChangeSpec.witness6 (enc := enc) (C := Try.checked) false ⟨#[], #[.agg #[.int .i64 0, .int .i64 0, .int .i64 0, .int .i64 0], .int .u8 0, .int .u8 0], []⟩ 8 (by kernel_rfl) (by kernel_rfl) (by kernel_rfl) (by kernel_rfl)) ?_
  intro W base args ds gs before hval0 hW hcnd hsz0 _
  have hval : ∀ (j : Nat) t v, Try.f9.params[j]? = some t → args[j]? = some v → Value.okWide Try.prog W .any base t v := hval0
  have hW' := hW
  obtain ⟨p, q, hA0, hV, rfl, hfz, hnd⟩ := hW
  have hA : DataW.TrodAll enc Try.prog W 0 (fun _ => true) true Try.f9.params.toList args.toList ds p := hA0
  have hlt : ∀ x ∈ p, x.block < W.heap.size := fun x hx => by simpa using hW'.lt x (by simp [hx])
  have hready : ∀ t ∈ Try.f9.params.toList, Try.prog.readableRec t = true ∧ t < Try.prog.types.size := by
    rw [Try.params9]
    intro t ht
    simp only [List.mem_cons, List.not_mem_nil, or_false] at ht
    rcases ht with rfl | rfl | rfl <;> exact ⟨by kernel_rfl, of_decide_eq_true (by kernel_rfl)⟩
  have hAk := hA
  rw [Try.params9] at hA hval
  obtain ⟨v0, vs0, d0, ds0, p0, q0, hargs, rfl, rfl, h0, r0⟩ := trodAll_cons hA
  obtain ⟨v1, vs1, d1, ds1, p1, q1, rfl, rfl, rfl, h1, r1⟩ := trodAll_cons r0
  obtain ⟨v2, vs2, d2, ds2, p2, q2, rfl, rfl, rfl, h2, r2⟩ := trodAll_cons r1
  obtain ⟨rfl, rfl, rfl⟩ := trodAll_nil r2
  obtain rfl : args = #[v0, v1, v2] := by cases args; simp_all
  obtain ⟨rfl, rfl⟩ := trodVars_none hV
  obtain ⟨c0, m0, rfl, i0⟩ := Open.Flat.open_agg flatStrip (.inl ⟨_, Try.underlying32⟩) (hval 0 32 v0 rfl rfl) h0
  obtain ⟨n0_0, n0_1, n0_2, n0_3, rfl, x0_0, x0_1, x0_2, x0_3⟩ := i0.of4
  obtain ⟨a1, rfl, rfl, rfl, w1⟩ := open_int Try.underlying5 (hval 1 5 v1 rfl rfl) h1
  obtain ⟨a2, rfl, rfl, rfl, w2⟩ := open_int Try.underlying5 (hval 2 5 v2 rfl rfl) h2
  clear hA0 hval0 hsz0
  refine (Cell.cellall_row n0_0 n0_1 n0_2 n0_3 a1 a2 (Num.wf_u8 w1).1 (Num.wf_u8 w1).2 (Num.wf_u8 w2).1 (Num.wf_u8 w2).2 W).mono fun e W' ⟨he, bel⟩ => ?_
  subst he
  exact ⟨_, rfl, _, _, _, [], _, [], hW', trodAll_mk1 (shut_bool Try.underlying4 _), Open.trodAll_below laidOut bel hready hAk hlt, rfl, bel.frame _, fun h => by cases h⟩
theorem over : Rows.cellAllRow.holds Try.pinned (OpenSpec.ofChange Rows.cellAllSpec) :=
  OpenClaim.holds_of_wide 9 Try.f9 rfl rfl rfl rfl rfl rfl rfl ⟨rfl, rfl, rfl, rfl, rfl⟩ rfl rfl rfl rfl rfl (by kernel_rfl) Try.func9 (by kernel_rfl)
    (of_decide_eq_true (by kernel_rfl)) (by unfold Func.isWrapper; first | (rw [if_pos (by decide +kernel)]; kernel_rfl) | (rw [if_neg (by decide +kernel)]; exact ⟨rfl, rfl⟩))
    (fun os started H enc _ => lifted os started H enc)
theorem proved : Rows.CellAllSaid := over
end cellAll
/-- The row, for the claim. -/
theorem cellAll_holds : Rows.CellAllSaid := cellAll.proved
end Go.Proofs.Ytjdpmaachehpnaa
