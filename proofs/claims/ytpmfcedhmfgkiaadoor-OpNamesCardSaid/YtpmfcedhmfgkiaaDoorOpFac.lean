/- The laws OpFactors and OpTurns, walked: any operator takes what the document says; exchanged, it takes the same, exchanged. For all numbers and alphas, in any world that holds the table. -/
import Derived.Test.YtpmfcedhmfgkiaaDoorOpL
import Derived.Test.YtpmfcedhmfgkiaaDoorOpLaid
import Derived.Test.YtpmfcedhmfgkiaaDoorNum
import Derived.WalkLawsBesides
namespace Go.Proofs.YtpmfcedhmfgkiaaDoor.Ops
open Go Go.RowKit
set_option maxRecDepth 100000
set_option linter.unusedVariables false
set_option linter.unusedSimpArgs false

theorem bel {w w' : World} (h : Below w.heap.size w w') : w.heap.size ≤ w'.heap.size := h.size

set_option maxHeartbeats 4000000 in
theorem wakes20_calls (w : World) (hk : Kinds w) : Calls Tryd.prog 12 #[] w fun e w' => e = .returned (.bool true) ∧ Below w.heap.size w w' := by
  have F := Lib.hid (factors_calls 3 255 100 (by decide) (by decide) (by decide) (by decide) w hk)
  have nm : ∀ w : World, w.cell? ⟨0, 3 * 2, none⟩ = some (.string ⟨#[115, 114, 99, 111, 118, 101, 114]⟩) → Calls Tryd.prog 28 #[.int .i64 3] w fun e w' => e = .returned (.string ⟨#[115, 114, 99, 111, 118, 101, 114]⟩) ∧ w = w' := fun w hc => name_in 3 (by decide) _ w hc
  have NM := Lib.hid nm
  have C := Lib.hid (fun (w1 : World) (hb : Below w.heap.size w w1) => ((hk.below hb).2 3 _ rfl).1)
  clear hk nm
  go_enter Tryd.func12, Tryd.ntmps12
  go_wp2_with (first
    | (go_at_call 13; ((with_reducible refine F.out.mono ?_); rintro e w1 ⟨rfl, hb1⟩))
    | (go_at_call 28; ((with_reducible refine (NM.out _ (C.out _ hb1)).mono ?_); rintro e w2 ⟨rfl, rfl⟩)))
  go_ret
  exact ⟨rfl, hb1⟩

theorem othV_oth (o : Int) (h0 : 0 ≤ o) (h1 : o < 12) : othV (othV o) = o := by
  unfold othV; split <;> split <;> (try split) <;> omega
theorem nameB_ne (o : Int) : (nameB o).toList.isEmpty = !decide (0 ≤ o ∧ o < 12) := by
  by_cases h : 0 ≤ o ∧ o < 12
  · rw [decide_eq_true h]
    rcases (show o = 0 ∨ o = 1 ∨ o = 2 ∨ o = 3 ∨ o = 4 ∨ o = 5 ∨ o = 6 ∨ o = 7 ∨ o = 8 ∨ o = 9 ∨ o = 10 ∨ o = 11 by omega) with rfl | rfl | rfl | rfl | rfl | rfl | rfl | rfl | rfl | rfl | rfl | rfl <;> decide +kernel
  · rw [decide_eq_false h]; unfold nameB; rw [if_neg h]; decide +kernel

set_option maxHeartbeats 4000000 in
theorem opfactors_calls (o s d : Int) (o0 : -9223372036854775808 ≤ o) (o1 : o ≤ 9223372036854775807) (s0 : 0 ≤ s) (s1 : s ≤ 255) (d0 : 0 ≤ d) (d1 : d ≤ 255) (w : World) (hk : Kinds w) :
    Calls Tryd.prog 3 #[.int .i64 o, .int .u8 s, .int .u8 d] w fun e w' => e = .returned (.bool true) ∧ Below w.heap.size w w' := by
  have WK := Lib.hid (wakes20_calls w hk)
  have F := Lib.hid (fun (w1 : World) (hb : Below w.heap.size w w1) => factors_calls o s d s0 s1 d0 d1 w1 (hk.below hb))
  have SO := Lib.hid (fun w => source_calls o d d0 d1 w)
  have DE := Lib.hid (fun w => dest_calls o s s0 s1 w)
  have RI := Lib.hid (fun w => right_calls o w)
  have NM := Lib.hid (fun w => refname_calls o w)
  have NE := nameB_ne o
  generalize srcV (othV o) s = b at *
  generalize srcV o d = a at *
  generalize decide (0 ≤ o ∧ o < 12) = r at *
  generalize nameB o = nm at *
  clear hk
  go_enter Tryd.func3, Tryd.ntmps3
  go_wp2_with (first
    | (go_at_call 12; ((with_reducible refine WK.out.mono ?_); rintro e w1 ⟨rfl, hb1⟩))
    | (go_at_call 13; ((with_reducible refine (F.out _ hb1).mono ?_); rintro e w2 ⟨rfl, hb2⟩; replace hb1 := below_more hb1 hb2; clear hb2))
    | (go_at_call 14; ((with_reducible refine (SO.out _).mono ?_); rintro e w3 ⟨rfl, rfl⟩))
    | (go_at_call 15; ((with_reducible refine (DE.out _).mono ?_); rintro e w3 ⟨rfl, rfl⟩))
    | (go_at_call 16; ((with_reducible refine (RI.out _).mono ?_); rintro e w3 ⟨rfl, rfl⟩))
    | (go_at_call 17; ((with_reducible refine (NM.out _).mono ?_); rintro e w3 ⟨rfl, rfl⟩)))
  all_goals
    go_ret
    exact ⟨by cases r <;> simp_all, hb1⟩

theorem srcV_bd (o d : Int) (d0 : 0 ≤ d) (d1 : d ≤ 255) : 0 ≤ srcV o d ∧ srcV o d ≤ 255 := by
  unfold srcV; split
  · omega
  · split
    · omega
    · split <;> omega
theorem mul_bd {s a : Int} (s0 : 0 ≤ s) (s1 : s ≤ 255) (a0 : 0 ≤ a) (a1 : a ≤ 255) : 0 ≤ s * a ∧ s * a ≤ 65025 :=
  ⟨Int.mul_nonneg s0 a0, by have := Int.mul_le_mul s1 a1 a0 (by omega); simpa using this⟩
/-- What is taken of both never comes to more than one whole. -/
theorem both_le (o s d : Int) (s0 : 0 ≤ s) (s1 : s ≤ 255) (d0 : 0 ≤ d) (d1 : d ≤ 255) : s * srcV o d + d * srcV (othV o) s ≤ 65025 := by
  have h1 := (mul_bd (s := 255 - s) (a := 255 - d) (by omega) (by omega) (by omega) (by omega)).1
  have h2 := (mul_bd s0 s1 d0 d1).1
  have h3 := (mul_bd s0 s1 d0 d1).2
  have h4 := (mul_bd d0 d1 s0 s1).2
  have e1 : (255 - s) * (255 - d) = 65025 - 255 * d - (s * 255 - s * d) := by rw [Int.sub_mul, Int.mul_sub, Int.mul_sub]; omega
  have e2 : s * (255 - d) = s * 255 - s * d := Int.mul_sub ..
  have e3 : d * (255 - s) = d * 255 - s * d := by rw [Int.mul_sub, Int.mul_comm d s]
  have e4 : d * s = s * d := Int.mul_comm d s
  have e5 : (255 - s) * d = 255 * d - s * d := Int.sub_mul ..
  by_cases h : 0 ≤ o ∧ o < 12
  · rcases (show o = 0 ∨ o = 1 ∨ o = 2 ∨ o = 3 ∨ o = 4 ∨ o = 5 ∨ o = 6 ∨ o = 7 ∨ o = 8 ∨ o = 9 ∨ o = 10 ∨ o = 11 by omega) with rfl | rfl | rfl | rfl | rfl | rfl | rfl | rfl | rfl | rfl | rfl | rfl
    all_goals
      simp only [othV, srcV, if_true, if_false, reduceIte, Int.reduceEq, or_false, or_true, false_or, true_or, Int.reduceAdd, Int.reduceSub, Int.mul_zero, Int.zero_add, Int.add_zero]
      first | omega | (rw [e2]; omega) | (rw [e3]; omega) | (rw [e2, e3]; omega) | (rw [e4, e2]; omega) | (rw [e4, e3]; omega)
  · have e0 : othV o = o := (oth_or o).2 h
    have z : ∀ d, srcV o d = 0 := fun d => by unfold srcV; rw [if_neg (by omega), if_neg (by omega), if_neg (by omega)]
    rw [e0, z, z]; omega

set_option maxHeartbeats 4000000 in
theorem opturns_calls (o s d : Int) (o0 : -9223372036854775808 ≤ o) (o1 : o ≤ 9223372036854775807) (s0 : 0 ≤ s) (s1 : s ≤ 255) (d0 : 0 ≤ d) (d1 : d ≤ 255) (w : World) (hk : Kinds w) :
    Calls Tryd.prog 4 #[.int .i64 o, .int .u8 s, .int .u8 d] w fun e w' => e = .returned (.bool true) ∧ Below w.heap.size w w' := by
  have WK := Lib.hid (wakes20_calls w hk)
  by_cases h : 0 ≤ o ∧ o < 12
  · have OO := othV_oth o h.1 h.2
    have F1 := Lib.hid (fun (w1 : World) (hb : Below w.heap.size w w1) => factors_calls o s d s0 s1 d0 d1 w1 (hk.below hb))
    have f2 := fun (w1 : World) (hb : Below w.heap.size w w1) => factors_calls (othV o) d s d0 d1 s0 s1 w1 (hk.below hb)
    rw [OO] at f2
    have F2 := Lib.hid f2
    have OT := Lib.hid (fun w => other_calls o w)
    have a0 := srcV_bd o d d0 d1
    have b0 := srcV_bd (othV o) s s0 s1
    have le := both_le o s d s0 s1 d0 d1
    obtain ⟨o2, o3⟩ := h
    clear OO f2 hk
    generalize srcV (othV o) s = b at *
    generalize srcV o d = a at *
    generalize othV o = p at *
    obtain ⟨a0, a1⟩ := a0
    obtain ⟨b0, b1⟩ := b0
    have m1 := mul_bd s0 s1 a0 a1
    have m2 := mul_bd d0 d1 b0 b1
    obtain ⟨m1, m3⟩ := m1
    obtain ⟨m2, m4⟩ := m2
    go_enter Tryd.func4, Tryd.ntmps4
    go_wp2_with (first
      | (go_at_call 12; ((with_reducible refine WK.out.mono ?_); rintro e w1 ⟨rfl, hb1⟩))
      | (go_at_call 13; ((with_reducible refine (F1.out _ hb1).mono ?_); rintro e w2 ⟨rfl, hb2⟩; replace hb1 := below_more hb1 hb2; clear hb2))
      | (go_at_call 13; ((with_reducible refine (F2.out _ hb1).mono ?_); rintro e w2 ⟨rfl, hb2⟩; replace hb1 := below_more hb1 hb2; clear hb2))
      | (go_at_call 18; ((with_reducible refine (OT.out _).mono ?_); rintro e w3 ⟨rfl, rfl⟩)))
    all_goals
      go_ret
      exact ⟨by first | rfl | (simp; done) | (simp; omega), hb1⟩
  · go_enter Tryd.func4, Tryd.ntmps4
    by_cases h1 : 0 ≤ o
    · have h2 : 11 < o := by omega
      clear h
      go_wp2_with (go_at_call 12; ((with_reducible refine WK.out.mono ?_); rintro e w1 ⟨rfl, hb1⟩))
      go_ret
      exact ⟨rfl, hb1⟩
    · have h2 : o < 0 := by omega
      clear h h1
      go_wp2_with (go_at_call 12; ((with_reducible refine WK.out.mono ?_); rintro e w1 ⟨rfl, hb1⟩))
      go_ret
      exact ⟨rfl, hb1⟩
end Go.Proofs.YtpmfcedhmfgkiaaDoor.Ops
