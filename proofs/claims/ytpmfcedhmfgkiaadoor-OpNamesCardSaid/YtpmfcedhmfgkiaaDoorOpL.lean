/- Packages op and ref20, walked: Dest, the names, the examples; the law OpFactors. For all numbers and alphas, in any world that holds the table. -/
import Derived.Test.YtpmfcedhmfgkiaaDoorOpR
namespace Go.Proofs.YtpmfcedhmfgkiaaDoor.Ops
open Go Go.RowKit
set_option maxRecDepth 100000
set_option linter.unusedVariables false
set_option linter.unusedSimpArgs false
theorem below_more {w w1 w2 : World} (a : Below w.heap.size w w1) (b : Below w1.heap.size w1 w2) : Below w.heap.size w w2 := a.trans (b.mono a.size)

theorem oth_or (o : Int) : (0 ≤ o ∧ o < 12 → 0 ≤ othV o ∧ othV o < 12) ∧ (¬ (0 ≤ o ∧ o < 12) → othV o = o) := by
  unfold othV
  constructor
  · intro h; split
    · omega
    · split <;> omega
  · intro h; rw [if_neg (by omega), if_neg (by omega)]

set_option maxHeartbeats 4000000 in
theorem dest_calls (o s : Int) (s0 : 0 ≤ s) (s1 : s ≤ 255) (w : World) : Calls Tryd.prog 15 #[.int .i64 o, .int .i64 s] w fun e w' => e = .returned (.int .i64 (srcV (othV o) s)) ∧ w = w' := by
  have O := Lib.hid (fun w => other_calls o w)
  generalize othV o = p at *
  have S := Lib.hid (fun w => source_calls p s s0 s1 w)
  generalize srcV p s = r at *
  go_enter Tryd.func15, Tryd.ntmps15
  go_wp2_with (first
    | (go_at_call 18; ((with_reducible refine (O.out _).mono ?_); rintro e w1 ⟨rfl, rfl⟩))
    | (go_at_call 14; ((with_reducible refine (S.out _).mono ?_); rintro e w1 ⟨rfl, rfl⟩)))
  go_ret
  exact ⟨rfl, rfl⟩

def nameB (o : Int) : ByteArray := if 0 ≤ o ∧ o < 12 then ⟨(Tab.kinds.getD o.toNat ([], [])).1.toArray⟩ else ⟨#[]⟩

set_option maxHeartbeats 8000000 in
theorem refname_calls (o : Int) (w : World) : Calls Tryd.prog 17 #[.int .i64 o] w fun e w' => e = .returned (.string (nameB o)) ∧ w = w' := by
  by_cases h : 0 ≤ o ∧ o < 12
  · rcases (show o = 0 ∨ o = 1 ∨ o = 2 ∨ o = 3 ∨ o = 4 ∨ o = 5 ∨ o = 6 ∨ o = 7 ∨ o = 8 ∨ o = 9 ∨ o = 10 ∨ o = 11 by omega) with rfl | rfl | rfl | rfl | rfl | rfl | rfl | rfl | rfl | rfl | rfl | rfl
    all_goals
      go_enter Tryd.func17, Tryd.ntmps17
      go_wp2
      go_ret
      exact ⟨rfl, rfl⟩
  · have e : nameB o = ⟨#[]⟩ := if_neg h
    rw [e]
    have n0 : o ≠ 0 := by omega
    have n1 : o ≠ 1 := by omega
    have n2 : o ≠ 2 := by omega
    have n3 : o ≠ 3 := by omega
    have n4 : o ≠ 4 := by omega
    have n5 : o ≠ 5 := by omega
    have n6 : o ≠ 6 := by omega
    have n7 : o ≠ 7 := by omega
    have n8 : o ≠ 8 := by omega
    have n9 : o ≠ 9 := by omega
    have n10 : o ≠ 10 := by omega
    have n11 : o ≠ 11 := by omega
    clear h e
    go_enter Tryd.func17, Tryd.ntmps17
    go_wp2
    go_ret
    exact ⟨rfl, rfl⟩

set_option maxHeartbeats 4000000 in
theorem factors_in (o : Int) (h0 : 0 ≤ o) (h1 : o < 12) (s d : Int) (s0 : 0 ≤ s) (s1 : s ≤ 255) (d0 : 0 ≤ d) (d1 : d ≤ 255) (w : World) (hk : Kinds w) :
    Calls Tryd.prog 13 #[.int .i64 o, .int .u8 s, .int .u8 d] w fun e w' => e = .returned (.tuple #[.int .i64 (srcV o d), .int .i64 (srcV (othV o) s)]) ∧ Below w.heap.size w w' := by
  rcases (show o = 0 ∨ o = 1 ∨ o = 2 ∨ o = 3 ∨ o = 4 ∨ o = 5 ∨ o = 6 ∨ o = 7 ∨ o = 8 ∨ o = 9 ∨ o = 10 ∨ o = 11 by omega) with rfl | rfl | rfl | rfl | rfl | rfl | rfl | rfl | rfl | rfl | rfl | rfl
  · exact factors_gen 0 (by decide) 48 48 48 48 rfl rfl (by decide) (by decide) s d s0 s1 d0 d1 w (hk.2 0 _ rfl).2
  · exact factors_gen 1 (by decide) 49 48 49 48 rfl rfl (by decide) (by decide) s d s0 s1 d0 d1 w (hk.2 1 _ rfl).2
  · exact factors_gen 2 (by decide) 48 49 48 49 rfl rfl (by decide) (by decide) s d s0 s1 d0 d1 w (hk.2 2 _ rfl).2
  · exact factors_gen 3 (by decide) 49 83 49 83 rfl rfl (by decide) (by decide) s d s0 s1 d0 d1 w (hk.2 3 _ rfl).2
  · exact factors_gen 4 (by decide) 68 49 68 49 rfl rfl (by decide) (by decide) s d s0 s1 d0 d1 w (hk.2 4 _ rfl).2
  · exact factors_gen 5 (by decide) 100 48 100 48 rfl rfl (by decide) (by decide) s d s0 s1 d0 d1 w (hk.2 5 _ rfl).2
  · exact factors_gen 6 (by decide) 48 115 48 115 rfl rfl (by decide) (by decide) s d s0 s1 d0 d1 w (hk.2 6 _ rfl).2
  · exact factors_gen 7 (by decide) 68 48 68 48 rfl rfl (by decide) (by decide) s d s0 s1 d0 d1 w (hk.2 7 _ rfl).2
  · exact factors_gen 8 (by decide) 48 83 48 83 rfl rfl (by decide) (by decide) s d s0 s1 d0 d1 w (hk.2 8 _ rfl).2
  · exact factors_gen 9 (by decide) 100 83 100 83 rfl rfl (by decide) (by decide) s d s0 s1 d0 d1 w (hk.2 9 _ rfl).2
  · exact factors_gen 10 (by decide) 68 115 68 115 rfl rfl (by decide) (by decide) s d s0 s1 d0 d1 w (hk.2 10 _ rfl).2
  · exact factors_gen 11 (by decide) 68 83 68 83 rfl rfl (by decide) (by decide) s d s0 s1 d0 d1 w (hk.2 11 _ rfl).2

set_option maxHeartbeats 4000000 in
theorem factors_calls (o : Int) (s d : Int) (s0 : 0 ≤ s) (s1 : s ≤ 255) (d0 : 0 ≤ d) (d1 : d ≤ 255) (w : World) (hk : Kinds w) :
    Calls Tryd.prog 13 #[.int .i64 o, .int .u8 s, .int .u8 d] w fun e w' => e = .returned (.tuple #[.int .i64 (srcV o d), .int .i64 (srcV (othV o) s)]) ∧ Below w.heap.size w w' := by
  by_cases h : 0 ≤ o ∧ o < 12
  · exact factors_in o h.1 h.2 s d s0 s1 d0 d1 w hk
  · have e0 : othV o = o := (oth_or o).2 h
    have e1 : srcV o d = 0 := by unfold srcV; rw [if_neg (by omega), if_neg (by omega), if_neg (by omega)]
    have e2 : srcV o s = 0 := by unfold srcV; rw [if_neg (by omega), if_neg (by omega), if_neg (by omega)]
    rw [e0, e1, e2]
    have R := fun w => right_calls o w
    rw [show decide (0 ≤ o ∧ o < 12) = false from decide_eq_false h] at R
    have RR := Lib.hid R
    clear R e0 e1 e2
    go_enter Tryd.func13, Tryd.ntmps13
    go_wp2_with (go_at_call 16; ((with_reducible refine (RR.out _).mono ?_); rintro e w1 ⟨rfl, rfl⟩))
    go_ret2
    exact ⟨rfl, Below.refl _ _⟩

set_option maxHeartbeats 4000000 in
theorem name_in (n : Nat) (hn : n < 12) (b : ByteArray) (w : World) (hc : w.cell? ⟨0, n * 2, none⟩ = some (.string b)) :
    Calls Tryd.prog 28 #[.int .i64 (n : Int)] w fun e w' => e = .returned (.string b) ∧ w = w' := by
  have R := fun w => right_calls (n : Int) w
  have q : decide (0 ≤ (n : Int) ∧ (n : Int) < 12) = true := decide_eq_true (by omega)
  rw [q] at R
  have RR := Lib.hid R
  clear q R
  go_enter Tryd.func28, Tryd.ntmps28
  go_wp2_with (go_at_call 16; ((with_reducible refine (RR.out _).mono ?_); rintro e w1 ⟨rfl, rfl⟩))
  go_ret
  exact ⟨rfl, rfl⟩
end Go.Proofs.YtpmfcedhmfgkiaaDoor.Ops
