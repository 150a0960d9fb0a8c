/- The law BufferOrder: in whatever order edges are added, at once or one by one, the weights are the same. For all inputs. -/
import Derived.Test.YtejcjonlnijbkaaBf3
import Derived.Test.YtejcjonlnijbkaaWm1
import Derived.Test.YtejcjonlnijbkaaRows
import Derived.ProofKit
import Derived.OpenShut
import Derived.ShutString
import Derived.ChangeOld
import Derived.SizedLaws
import Derived.Test.YtejcjonlnijbkaaPEx20
namespace Go.Proofs.Ytejcjonlnijbkaa
open Go Go.RowKit
set_option linter.unusedVariables false
set_option linter.unusedSimpArgs false
namespace Buf
open Go Go.RowKit Go.Shelf Range Go.Proofs.Ytejcjonlnijbkaa.PE Go.Proofs.YtejcjonlnijbkaaW.PrintWords Go.Proofs.YtejcjonlnijbkaaW.PrintLast Go.Proofs.YtejcjonlnijbkaaW.PrintMore Go.Proofs.Ytejcjonlnijbkaa.Num
attribute [local go_sem] Oper.semAt_some
theorem wsmall {x : Int} (h0 : 0 ≤ x) (h1 : x ≤ 1000000) : wrap64 x = x := by unfold wrap64; omega
theorem addl_append (W H : Int) (l k : List Eg) (F : Int → List Cl) : addl W H (l ++ k) F = addl W H k (addl W H l F) := by simp [addl]
theorem er_nil (O : Nat → Prop) (w : World) : ER O w none [] := fun i hi => by simp at hi
set_option maxHeartbeats 16000000 in
set_option maxRecDepth 100000 in
theorem bufferorder (s0 s1 : Int) (β : Nat) (h0 : 0 ≤ s0 ∧ s0 ≤ 255) (h1 : 0 ≤ s1 ∧ s1 ≤ 255) (hβ : β ≤ 255) (A : Option Addr) (es : List Eg) (cap : Nat) (hl : es.length ≤ 12) (hl0 : 0 < es.length) (hI : ∀ e ∈ es, InIE e) (w : World) (hE : ER (fun _ => False) w A es) :
    Calls Try.prog 4 #[.agg #[.int .u8 s0, .int .u8 s1], .slice A es.length cap, .int .u8 (β : Int)] w fun e w' => e = .returned (.bool true) ∧ Below w.heap.size w w' := by
  obtain ⟨W, hW⟩ : ∃ W : Nat, 1 + s0 % 16 = (W : Int) := ⟨(1 + s0 % 16).toNat, by omega⟩
  obtain ⟨H, hH⟩ : ∃ H : Nat, 1 + s1 % 16 = (H : Int) := ⟨(1 + s1 % 16).toNat, by omega⟩
  have hWb : 1 ≤ W ∧ W ≤ 16 := by omega
  have hHb : 1 ≤ H ∧ H ≤ 16 := by omega
  have WK := Lib.hid (fun w => wakes_calls w)
  have OA := Lib.hid (fun w hE => of_calls s0 s1 h0 h1 A es cap (by omega) hI w hE)
  have OB := Lib.hid (fun w => show Calls Try.prog _ #[_, .slice none 0 0] w _ from of_calls s0 s1 h0 h1 none [] 0 (by simp) (by simp) w (er_nil _ _))
  rw [hW, hH] at OA OB
  simp only [Int.toNat_natCast] at OA OB
  have HI := Lib.hid hI
  have HE := Lib.hid hE
  clear hI hE hW hH
  have hlen : ¬ (es.length : Int) > 12 := by omega
  have hlen2 : ¬ 12 < es.length := by omega
  have hlen3 : ((es.length : Int) == 0) = false := by simp only [beq_eq_false_iff_ne]; omega
  have hlen4 : ¬ (es.length : Int) = 0 := by omega
  go_enter Try.func4, Try.ntmps4
  go_wp2_with (first
    | (go_at_call 15; (with_reducible refine (WK.out _).mono ?_); rintro e w1 ⟨rfl, hb1⟩; have q0 := (hb1.cell (p := ⟨w.heap.size, 0, none⟩) (by simp)).trans (show _ = some (Value.int .u8 s0) by go_simp); have q1 := (hb1.cell (p := ⟨w.heap.size, 1, none⟩) (by simp)).trans (show _ = some (Value.int .u8 s1) by go_simp); have z1 : w.heap.size < w1.heap.size := Nat.lt_of_lt_of_le (by simp) hb1.size; have HB1 : Below w.heap.size w w1 := ((Below.refl _ w).alloc (Nat.le_refl _) _).trans (hb1.mono (by simp)); have hE1 := HE.out.over HB1 (O1 := fun _ => False) (fun i h => h.elim))
    | (go_at_call 16; (with_reducible refine (OA.out _ hE1).mono ?_); rintro e w2 ⟨bA, mA, lA, rfl, hb2, hB2, ho2⟩; have r0 := (hb2.cell (p := ⟨w.heap.size, 0, none⟩) z1).trans q0; have r1 := (hb2.cell (p := ⟨w.heap.size, 1, none⟩) z1).trans q1; have z2 := Nat.lt_of_lt_of_le z1 hb2.size)
    | (go_at_call 16; (with_reducible refine (OB.out _).mono ?_); rintro e w3 ⟨bB, mB, lB, rfl, hb3, hB3, ho3⟩))
  have HB2 : Below w.heap.size w w2 := HB1.trans (hb2.mono HB1.size)
  have HB3 : Below w.heap.size w w3 := HB2.trans (hb3.mono HB2.size)
  have B2 := Lib.hid (hB2.of (fun i hi => hb3.block i (hB2.lt hi)))
  have hoA : ∀ i, Own bA mA lA i → i < w2.heap.size := fun i hi => hB2.lt hi
  have ho2' : ∀ i, Own bA mA lA i → w.heap.size ≤ i := fun i hi => Nat.le_trans HB1.size (ho2 i hi)
  have B3 := Lib.hid hB3
  clear hB2 hB3 q0 q1 r0 r1
  have RP := Lib.hid (rot_perm es (β % es.length))
  have RL := Lib.hid (rot_len es (β % es.length))
  have RA := Lib.hid (fun i => rot_at es β i)
  generalize rot es (β % es.length) = rs at *
  go_loopw [45] (fun x wr => ∃ i : Nat, x = .int .i64 (i : Nat) ∧ i ≤ es.length ∧ Below w2.heap.size w3 wr ∧ ∃ l, Buf wr bB mB W H l (addl W H (rs.take i) nought) (addl W H (rs.take i) nought) ∧ ∀ i, Own bB mB l i → w2.heap.size ≤ i) (fun x _ => es.length - (intOf x).toNat)
  case atStart => exact ⟨0, rfl, Nat.zero_le _, Below.refl _ _, lB, by rw [List.take_zero]; exact B3.out, ho3⟩
  case round =>
    obtain ⟨i, rfl, hi, hF, l, hB, hol⟩ := hrel
    by_cases hlt : i < es.length
    · have hk : (i + β) % es.length < es.length := Nat.mod_lt _ hl0
      have HBr : Below w.heap.size w wr := HB3.trans (hF.mono HB2.size)
      have hEr := HE.out.over HBr (O1 := fun _ => False) (fun i h => h.elim)
      obtain ⟨g, off, rfl, hg, hno, c0, c1, c2, c3⟩ := hEr _ hk
      have hrs := RA.out i hlt
      rw [List.getElem?_eq_getElem hk] at hrs
      have hsn := Lib.hid (take_snoc hrs)
      have hIe := HI.out _ (List.getElem_mem hk)
      have hil : (i : Int) < (es.length : Int) := by omega
      have hwr2 : w2.heap.size ≤ wr.heap.size := Nat.le_trans hb3.size hF.size
      have hnz : ¬ (es.length : Int) = 0 := by omega
      have hlt2 : ∀ i, Own bB mB l i → i < wr.heap.size := fun i hi => hB.lt hi
      have hnO : ¬ Own bB mB l wr.heap.size := fun h => by have := hlt2 _ h; omega
      have e1 : (1 : Int) ≤ W ∧ (W : Int) ≤ 4096 := by omega
      have e3 : 1 ≤ W ∧ W ≤ 4096 := by omega
      have e2 : (1 : Int) ≤ H ∧ (H : Int) ≤ 4096 := by omega
      clear hEr hrs
      generalize es[(i + β) % es.length] = e at *
      have hki : ((i : Int) + (β : Int)) % (es.length : Int) = (((i + β) % es.length : Nat) : Int) := by rw [Int.natCast_emod, Int.natCast_add]
      generalize (i + β) % es.length = k at *
      have hkl : (k : Int) < (es.length : Int) := by omega
      have e1 : (1 : Int) ≤ W ∧ (W : Int) ≤ 4096 := by omega
      have e3 : 1 ≤ W ∧ W ≤ 4096 := by omega
      have e2 : (1 : Int) ≤ H ∧ (H : Int) ≤ 4096 := by omega
      have hAl := fun o => (Below.refl wr.heap.size wr).alloc (Nat.le_refl _) o
      have AD := Lib.hid (show Calls Try.prog _ #[_, .slice _ 1 1] _ _ from Add_calls H W bB mB l (addl W H (rs.take i) nought) e2 e3 (some ⟨wr.heap.size, 0, none⟩) [e] 1 (by simp) (fun e' he' => by simp at he'; subst he'; exact hIe) (wr.alloc (.cells #[.int .i64 e.f0.f0, .int .i64 e.f0.f1, .int .i64 e.f1.f0, .int .i64 e.f1.f1] 38)) (hB.of (fun i hi => (hAl _).block i (hlt2 i hi))) (ER.one e hnO _))
      have HB := Lib.hid hB
      clear hB
      have hi1 : i + 1 ≤ es.length := hlt
      clear e1 e2 e3
      go_wp2_with (go_at_call 19; ((with_reducible refine AD.out.mono ?_); rintro e4 w4 ⟨rfl, hF4, l4, hB4, ho4⟩))
      clear hki hnz
      go_roundw
      case rel =>
        refine ⟨i + 1, by go_num, hi1, (hF.alloc hwr2 _).trans (hF4.below (B := w2.heap.size) (fun i hi => hol i hi) (by simp; omega)), l4, ?_, fun j hj => ?_⟩
        · rw [hsn.out, addl_append]; exact hB4
        · rcases ho4 j hj with h | h
          · exact hol j h
          · simp at h; omega
      case measure => simp [intOf]; omega
    · obtain rfl : i = es.length := by omega
      have htk : rs.take es.length = rs := List.take_of_length_le (by rw [RL.out]; exact Nat.le_refl _)
      rw [htk] at hB
      have HBr : Below w.heap.size w wr := HB3.trans (hF.mono HB2.size)
      have hBA := B2.out.of (fun i hi => hF.block i (hoA i hi))
      have WA := Lib.hid (fun w hB => weights_calls W bA mA H lA (addl W H es nought) (by omega) (by omega) w hB)
      have WB := Lib.hid (fun w hB => weights_calls W bB mB H l (addl W H rs nought) (by omega) (by omega) w hB)
      have HLA := Lib.hid (allWts_len W H (addl W H es nought))
      have hpm := allWts_perm (W := W) (h := H) RP.out
      rw [hpm] at WB
      have hHW : H * W ≤ 16 * 16 := Nat.mul_le_mul hHb.2 hWb.2
      obtain ⟨KS, hKS⟩ := same_f (allWts W H (addl W H es nought)) (by rw [HLA.out]; omega)
      have hS0 : pointillistlaw17_same.f KS (allWts W H (addl W H es nought)) (allWts W H (addl W H es nought)) = some true := hKS KS (Nat.le_refl _)
      have SM := Lib.hid (fun w A5 c5 A6 c6 h1 h2 h3 h4 => pointillistlaw17_same.calls KS A5 c5 _ A6 c6 _ true w h1 h2 h3 h4 hS0)
      have HBd := Lib.hid hB
      have HBAd := Lib.hid hBA
      clear hKS hS0 hpm hB hBA
      go_wp2_with (first
        | (go_at_call 21; (with_reducible refine (WA.out _ HBAd.out).mono ?_); rintro e5 w5 ⟨v5, rfl, hO5⟩; obtain ⟨A5, c5, rfl, hc5, hC5⟩ := ints_own hO5 (by rw [HLA.out]); have hb5 := hO5.bel; have hBB := HBd.out.of (fun i hi => hb5.block i (HBd.out.lt hi)); have HB5 := HBr.trans (hb5.mono HBr.size))
        | (go_at_call 21; (with_reducible refine (WB.out _ hBB).mono ?_); rintro e6 w6 ⟨v6, rfl, hO6⟩; obtain ⟨A6, c6, rfl, hc6, hC6⟩ := ints_own hO6 (by rw [HLA.out]); have hb6 := hO6.bel; have hC5' := Kd.C_below hC5 hb6; have HB6 := HB5.trans (hb6.mono HB5.size))
        | (go_at_call 20; (with_reducible refine (SM.out _ _ _ _ _ hC5' hc5 hC6 hc6).mono ?_); rintro e7 w7 ⟨rfl, ⟨nd, rfl⟩⟩))
      go_ret
      exact ⟨rfl, pw_below_drewN HB6 nd⟩
set_option maxHeartbeats 4000000 in
set_option maxRecDepth 100000 in
theorem bufferorder_not (s0 s1 : Int) (β : Int) (A : Option Addr) (n : Nat) (cap : Nat) (hl : ¬ (n ≤ 12 ∧ 0 < n)) (w : World) :
    Calls Try.prog 4 #[.agg #[.int .u8 s0, .int .u8 s1], .slice A n cap, .int .u8 β] w fun e w' => e = .returned (.bool true) ∧ Below w.heap.size w w' := by
  have WK := Lib.hid (fun w => wakes_calls w)
  have hem := Classical.em (12 < n)
  rcases hem with hem | hem
  · have hlen : (n : Int) > 12 := by omega
    go_enter Try.func4, Try.ntmps4
    go_wp2_with (first
      | (go_at_call 15; refine (WK.out _).mono ?_; rintro e w1 ⟨rfl, hb1⟩; have HB1 : Below w.heap.size w w1 := ((Below.refl _ w).alloc (Nat.le_refl _) _).trans (hb1.mono (by simp))))
    go_ret
    exact ⟨rfl, HB1⟩
  · obtain rfl : n = 0 := by omega
    go_enter Try.func4, Try.ntmps4
    go_wp2_with (first
      | (go_at_call 15; refine (WK.out _).mono ?_; rintro e w1 ⟨rfl, hb1⟩; have HB1 : Below w.heap.size w w1 := ((Below.refl _ w).alloc (Nat.le_refl _) _).trans (hb1.mono (by simp))))
    go_ret
    exact ⟨rfl, HB1⟩
theorem bufferorder_row {v : Value} {xs : List (List Int)} {s0 s1 by_ : Int} (h0 : 0 ≤ s0 ∧ s0 ≤ 255) (h1 : 0 ≤ s1 ∧ s1 ≤ 255) (h2 : 0 ≤ by_ ∧ by_ ≤ 255) {W : World} (f : Open.FlatRow W [.i64, .i64, .i64, .i64] v xs) :
    Calls Try.prog 4 #[.agg #[.int .u8 s0, .int .u8 s1], v, .int .u8 by_] W fun e w' => e = .returned (.bool true) ∧ Below W.heap.size W w' := by
  obtain ⟨A, cap, es, rfl, hc, _, hE, hI⟩ := edges_in f
  obtain ⟨β, rfl⟩ : ∃ β : Nat, by_ = β := ⟨by_.toNat, by omega⟩
  by_cases h : es.length ≤ 12 ∧ 0 < es.length
  · exact bufferorder s0 s1 β h0 h1 (by omega) A es cap h.1 h.2 hI W hE
  · exact bufferorder_not s0 s1 β A es.length cap h W
end Buf
namespace bufferOrder
open Go.ChangeShapes Go.WideShapes Go.ChangeAt Go.RowKit
open Go.ChangeMaps (open_string shut_string)
theorem own : ownKnob Try.prog.godebug = none := by kernel_rfl
theorem laidOut : laidOutB Try.prog = true := by kernel_rfl
set_option maxRecDepth 100000 in
theorem lifted (os : Os) (started : os.Started) (H : Type) (enc : TypeId × Value → H) :
    ReturnsInHanded {} Try.checked os 4 .any (Rows.bufferOrderSpec.pre6 enc Try.prog Try.f4 Rows.bufferOrderRow.domain false) (Rows.bufferOrderSpec.post enc Try.prog Try.f4 false true false false) := by
  refine returnsInHanded_of_change_sized (C := Try.checked) own started (by kernel_rfl) Try.func4
    (ChangeSpec.witness6 (enc := enc) (C := Try.checked) false ⟨#[], #[.agg #[.int .u8 0, .int .u8 0], .slice none 0 0, .int .u8 0], []⟩ 8 (by kernel_rfl) (by kernel_rfl) (by kernel_rfl) (by kernel_rfl)) ?_
  intro W base args ds gs before hval0 hW hcnd hsz0 _
  have hval : ∀ (j : Nat) t v, Try.f4.params[j]? = some t → args[j]? = some v → Value.okWide Try.prog W .any base t v := hval0
  have hW' := hW
  obtain ⟨p, q, hA0, hV, rfl, hfz, hnd⟩ := hW
  have hA : DataW.TrodAll enc Try.prog W 0 (fun _ => true) true Try.f4.params.toList args.toList ds p := hA0
  have hlt : ∀ x ∈ p, x.block < W.heap.size := fun x hx => by simpa using hW'.lt x (by simp [hx])
  have hready : ∀ t ∈ Try.f4.params.toList, Try.prog.readableRec t = true ∧ t < Try.prog.types.size := by
    rw [Try.params4]
    intro t ht
    simp only [List.mem_cons, List.not_mem_nil, or_false] at ht
    rcases ht with rfl | rfl | rfl <;> exact ⟨by kernel_rfl, of_decide_eq_true (by kernel_rfl)⟩
  have hAk := hA
  rw [Try.params4] at hA hval
  obtain ⟨v0, vs0, d0, ds0, p0, q0, hargs, rfl, rfl, h0, r0⟩ := trodAll_cons hA
  obtain ⟨v1, vs1, d1, ds1, p1, q1, rfl, rfl, rfl, h1, r1⟩ := trodAll_cons r0
  obtain ⟨v2, vs2, d2, ds2, p2, q2, rfl, rfl, rfl, h2, r2⟩ := trodAll_cons r1
  obtain ⟨rfl, rfl, rfl⟩ := trodAll_nil r2
  obtain rfl : args = #[v0, v1, v2] := by cases args; simp_all
  obtain ⟨rfl, rfl⟩ := trodVars_none hV
  obtain ⟨c0, m0, rfl, i0⟩ := Open.Flat.open_agg flatTwo8 (.inr ⟨_, _, Try.underlying22⟩) (hval 0 22 v0 rfl rfl) h0
  obtain ⟨n0_0, n0_1, rfl, x0_0, x0_1⟩ := i0.of2
  obtain ⟨xs1, f1⟩ := Open.Flat.open_slice flatEdge (by decide) Try.underlying23 (hval 1 23 v1 rfl rfl) h1
  obtain ⟨a2, rfl, rfl, rfl, w2⟩ := open_int Try.underlying5 (hval 2 5 v2 rfl rfl) h2
  clear hA0 hval0 hsz0
  refine (Buf.bufferorder_row (Num.wf_u8 x0_0) (Num.wf_u8 x0_1) (Num.wf_u8 w2) f1).mono fun e W' ⟨he, bel⟩ => ?_
  subst he
  exact ⟨_, rfl, _, _, _, [], _, [], hW', trodAll_mk1 (shut_bool Try.underlying4 _), Open.trodAll_below laidOut bel hready hAk hlt, rfl, bel.frame _, fun h => by cases h⟩
theorem over : Rows.bufferOrderRow.holds Try.pinned (OpenSpec.ofChange Rows.bufferOrderSpec) :=
  OpenClaim.holds_of_wide 4 Try.f4 rfl rfl rfl rfl rfl rfl rfl ⟨rfl, rfl, rfl, rfl, rfl⟩ rfl rfl rfl rfl rfl (by kernel_rfl) Try.func4 (by kernel_rfl)
    (of_decide_eq_true (by kernel_rfl)) (by unfold Func.isWrapper; first | (rw [if_pos (by decide +kernel)]; kernel_rfl) | (rw [if_neg (by decide +kernel)]; exact ⟨rfl, rfl⟩))
    (fun os started H enc _ => lifted os started H enc)
theorem proved : Rows.BufferOrderSaid := over
end bufferOrder
/-- The row, for the claim. -/
theorem bufferOrder_holds : Rows.BufferOrderSaid := bufferOrder.proved
end Go.Proofs.Ytejcjonlnijbkaa
