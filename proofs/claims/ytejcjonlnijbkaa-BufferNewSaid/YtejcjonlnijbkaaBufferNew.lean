/- The law BufferNew: a buffer of any size is there, or is refused; nothing weighs anything at first, nor outside. For all inputs. -/
import Derived.Test.YtejcjonlnijbkaaBf2
import Derived.Test.YtejcjonlnijbkaaFlatB
import Derived.Test.YtejcjonlnijbkaaWm1
import Derived.Test.YtejcjonlnijbkaaRows
import Derived.ProofKit
import Derived.OpenShut
import Derived.ShutString
import Derived.ChangeOld
import Derived.SizedLaws
import Derived.Test.YtejcjonlnijbkaaPEx11
namespace Go.Proofs.Ytejcjonlnijbkaa
open Go Go.RowKit
set_option linter.unusedVariables false
set_option linter.unusedSimpArgs false
namespace Buf
open Go Go.RowKit Go.Shelf Range Go.Proofs.Ytejcjonlnijbkaa.PE Go.Proofs.YtejcjonlnijbkaaW.PrintWords Go.Proofs.YtejcjonlnijbkaaW.PrintLast Go.Proofs.YtejcjonlnijbkaaW.PrintMore Go.Proofs.Ytejcjonlnijbkaa.Num
attribute [local go_sem] Oper.semAt_some
theorem atV_nought (W : Nat) (H x y : Int) : atV W H nought x y = 0 := by
  unfold atV; split
  · exact wt_nil _
  · rfl
theorem low_nought (W : Nat) (y : Int) : wrap64 (low W (nought y)) = 0 := by
  show wrap64 (low W []) = 0
  rw [low_nil]; simp [wrap64]
set_option maxHeartbeats 4000000 in
set_option maxRecDepth 100000 in
theorem buffernew (W H x y : Int) (w : World) : Calls Try.prog 7 #[.int .i64 W, .int .i64 H, .agg #[.int .i64 x, .int .i64 y]] w fun e w' => e = .returned (.bool true) ∧ Below w.heap.size w w' := by
  have WK := Lib.hid (fun w => wakes_calls w)
  by_cases h : (1 ≤ W ∧ 1 ≤ H) ∧ W ≤ 4096 ∧ H ≤ 4096
  · have RT := Lib.hid (fun w => pointillistref17_Right.calls W H true w (by unfold pointillistref17_Right.f; rw [if_pos (by omega), if_pos (by omega), if_pos (by omega)]; simp; omega))
    have NW := Lib.hid (fun w => new_some W H h w)
    have AT := Lib.hid (fun (w : World) b m l hB => At_calls H W.toNat b m l nought (by omega) x y w hB)
    have CV := Lib.hid (fun (w : World) b m l hB => Covers_calls H W.toNat b m l nought (by omega) y w hB)
    have HH := Lib.hid h
    clear h
    go_enter Try.func7, Try.ntmps7
    go_wp2_with (first
      | (go_at_call 15; (refine (WK.out _).mono ?_; rintro e w1 ⟨rfl, hb1⟩; have q0 : w1.cell? ⟨w.heap.size, 0, none⟩ = some (.int .i64 x) := (hb1.cell (p := ⟨w.heap.size, 0, none⟩) (by simp)).trans (by go_simp); have q1 : w1.cell? ⟨w.heap.size, 1, none⟩ = some (.int .i64 y) := (hb1.cell (p := ⟨w.heap.size, 1, none⟩) (by simp)).trans (by go_simp); have z1 : w.heap.size < w1.heap.size := Nat.lt_of_lt_of_le (by simp) hb1.size; have HB1 : Below w.heap.size w w1 := ((Below.refl _ w).alloc (Nat.le_refl _) _).trans (hb1.mono (by simp))))
      | (go_at_call 22; refine (NW.out _).mono ?_; rintro e w2 ⟨rfl, hb2, hB2⟩; have HB2 := HB1.trans (hb2.mono HB1.size); have r0 := (hb2.cell (p := ⟨w.heap.size, 0, none⟩) z1).trans q0; have r1 := (hb2.cell (p := ⟨w.heap.size, 1, none⟩) z1).trans q1; have z2 := Nat.lt_of_lt_of_le z1 hb2.size)
      | (go_at_call 23; refine (RT.out _).mono ?_; rintro e w3 ⟨rfl, ⟨nd, rfl⟩⟩; have hB3 := hB2.of (w' := w2.drewN nd) (fun _ _ => rfl))
      | (go_at_call 18; (with_reducible refine (AT.out _ _ _ _ hB3).mono ?_); rintro e w4 ⟨rfl, hb4⟩; rw [atV_nought]; have hB4 := hB3.of (fun i hi => hb4.block i (hB3.lt hi)); have s0 : w4.cell? ⟨w.heap.size, 1, none⟩ = some (.int .i64 y) := (hb4.cell (p := ⟨w.heap.size, 1, none⟩) z2).trans r1; have HB4 := (pw_below_drewN HB2 nd).trans (hb4.mono (Nat.le_of_lt z2)))
      | (go_at_call 24; (with_reducible refine (CV.out _ _ _ _ hB4).mono ?_); rintro e w5 ⟨rfl, hb5⟩; rw [low_nought]; have HB5 := HB4.trans (hb5.mono HB4.size)))
    go_ret
    exact ⟨rfl, HB5⟩
  · have RT := Lib.hid (fun w => pointillistref17_Right.calls W H false w (by unfold pointillistref17_Right.f; by_cases h1 : W ≥ 1 <;> by_cases h2 : W ≤ 4096 <;> by_cases h3 : H ≥ 1 <;> simp [h1, h2, h3]; omega))
    have NW := Lib.hid (fun w => new_none W H h w)
    clear h
    go_enter Try.func7, Try.ntmps7
    go_wp2_with (first
      | (go_at_call 15; refine (WK.out _).mono ?_; rintro e w1 ⟨rfl, hb1⟩; have HB1 : Below w.heap.size w w1 := ((Below.refl _ w).alloc (Nat.le_refl _) _).trans (hb1.mono (by simp)))
      | (go_at_call 22; refine (NW.out _).mono ?_; rintro e w2 ⟨rfl, hb2⟩; have HB2 := HB1.trans (hb2.mono HB1.size))
      | (go_at_call 23; refine (RT.out _).mono ?_; rintro e w3 ⟨rfl, ⟨nd, rfl⟩⟩))
    go_ret
    exact ⟨rfl, pw_below_drewN HB2 nd⟩
end Buf
namespace bufferNew
open Go.ChangeShapes Go.WideShapes Go.ChangeAt Go.RowKit
open Go.ChangeMaps (open_string shut_string)
theorem own : ownKnob Try.prog.godebug = none := by kernel_rfl
theorem laidOut : laidOutB Try.prog = true := by kernel_rfl
set_option maxRecDepth 100000 in
theorem lifted (os : Os) (started : os.Started) (H : Type) (enc : TypeId × Value → H) :
    ReturnsInHanded {} Try.checked os 7 .any (Rows.bufferNewSpec.pre6 enc Try.prog Try.f7 Rows.bufferNewRow.domain false) (Rows.bufferNewSpec.post enc Try.prog Try.f7 false true false false) := by
  refine returnsInHanded_of_change_sized (C := Try.checked) own started (by kernel_rfl) Try.func7
    (ChangeSpec.witness6 (enc := enc) (C := Try.checked) false ⟨#[], #[.int .i64 0, .int .i64 0, .agg #[.int .i64 0, .int .i64 0]], []⟩ 8 (by kernel_rfl) (by kernel_rfl) (by kernel_rfl) (by kernel_rfl)) ?_
  intro W base args ds gs before hval0 hW hcnd hsz0 _
  have hval : ∀ (j : Nat) t v, Try.f7.params[j]? = some t → args[j]? = some v → Value.okWide Try.prog W .any base t v := hval0
  have hW' := hW
  obtain ⟨p, q, hA0, hV, rfl, hfz, hnd⟩ := hW
  have hA : DataW.TrodAll enc Try.prog W 0 (fun _ => true) true Try.f7.params.toList args.toList ds p := hA0
  have hlt : ∀ x ∈ p, x.block < W.heap.size := fun x hx => by simpa using hW'.lt x (by simp [hx])
  have hready : ∀ t ∈ Try.f7.params.toList, Try.prog.readableRec t = true ∧ t < Try.prog.types.size := by
    rw [Try.params7]
    intro t ht
    simp only [List.mem_cons, List.not_mem_nil, or_false] at ht
    rcases ht with rfl | rfl | rfl <;> exact ⟨by kernel_rfl, of_decide_eq_true (by kernel_rfl)⟩
  have hAk := hA
  rw [Try.params7] at hA hval
  obtain ⟨v0, vs0, d0, ds0, p0, q0, hargs, rfl, rfl, h0, r0⟩ := trodAll_cons hA
  obtain ⟨v1, vs1, d1, ds1, p1, q1, rfl, rfl, rfl, h1, r1⟩ := trodAll_cons r0
  obtain ⟨v2, vs2, d2, ds2, p2, q2, rfl, rfl, rfl, h2, r2⟩ := trodAll_cons r1
  obtain ⟨rfl, rfl, rfl⟩ := trodAll_nil r2
  obtain rfl : args = #[v0, v1, v2] := by cases args; simp_all
  obtain ⟨rfl, rfl⟩ := trodVars_none hV
  obtain ⟨a0, rfl, rfl, rfl, w0⟩ := open_int Try.underlying3 (hval 0 3 v0 rfl rfl) h0
  obtain ⟨a1, rfl, rfl, rfl, w1⟩ := open_int Try.underlying3 (hval 1 3 v1 rfl rfl) h1
  obtain ⟨c2, m2, rfl, i2⟩ := Open.Flat.open_agg flatTwoI (.inr ⟨_, _, Try.underlying24⟩) (hval 2 24 v2 rfl rfl) h2
  obtain ⟨n2_0, n2_1, rfl, x2_0, x2_1⟩ := i2.of2
  clear hA0 hval0 hsz0
  refine (Buf.buffernew a0 a1 n2_0 n2_1 W).mono fun e W' ⟨he, bel⟩ => ?_
  subst he
  exact ⟨_, rfl, _, _, _, [], _, [], hW', trodAll_mk1 (shut_bool Try.underlying4 _), Open.trodAll_below laidOut bel hready hAk hlt, rfl, bel.frame _, fun h => by cases h⟩
theorem over : Rows.bufferNewRow.holds Try.pinned (OpenSpec.ofChange Rows.bufferNewSpec) :=
  OpenClaim.holds_of_wide 7 Try.f7 rfl rfl rfl rfl rfl rfl rfl ⟨rfl, rfl, rfl, rfl, rfl⟩ rfl rfl rfl rfl rfl (by kernel_rfl) Try.func7 (by kernel_rfl)
    (of_decide_eq_true (by kernel_rfl)) (by unfold Func.isWrapper; first | (rw [if_pos (by decide +kernel)]; kernel_rfl) | (rw [if_neg (by decide +kernel)]; exact ⟨rfl, rfl⟩))
    (fun os started H enc _ => lifted os started H enc)
theorem proved : Rows.BufferNewSaid := over
end bufferNew
/-- The row, for the claim. -/
theorem bufferNew_holds : Rows.BufferNewSaid := bufferNew.proved
end Go.Proofs.Ytejcjonlnijbkaa
