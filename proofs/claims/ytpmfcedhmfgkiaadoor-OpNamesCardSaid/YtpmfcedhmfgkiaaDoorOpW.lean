/- Packages op and ref20, walked: what an operator takes. For all numbers and alphas, in any world that holds the table. -/
import Derived.Test.YtpmfcedhmfgkiaaDoorOpTab
import Derived.Below
import Derived.Deep.Draws
import Derived.OwnWalk
import Derived.Tactics
import Derived.KernelRfl
import Derived.RowKit3
import Derived.Deep.QuietTactic
import Derived.BigQuiet
import Derived.WideLaws
import Derived.Lib.Hide
import Derived.Laws.Unary
import Derived.Deep.RegionWith
namespace Go.Proofs.YtpmfcedhmfgkiaaDoor.Ops
open Go Go.RowKit
set_option maxRecDepth 100000
set_option linter.unusedVariables false
set_option linter.unusedSimpArgs false

/-- A world that holds the table. -/
def Kinds (w : World) : Prop := 0 < w.heap.size ∧ ∀ i r, Tab.kinds[i]? = some r → w.cell? ⟨0, i * 2, none⟩ = some (.string ⟨r.1.toArray⟩) ∧ w.cell? ⟨0, i * 2 + 1, none⟩ = some (.string ⟨r.2.toArray⟩)
theorem Kinds.below {w w' : World} (h : Kinds w) (hb : Below w.heap.size w w') : Kinds w' :=
  ⟨Nat.lt_of_lt_of_le h.1 hb.size, fun i r hr => ⟨(hb.cell (p := ⟨0, i * 2, none⟩) h.1).trans (h.2 i r hr).1, (hb.cell (p := ⟨0, i * 2 + 1, none⟩) h.1).trans (h.2 i r hr).2⟩⟩

def takeV (c s d : Int) : Int := if c = 49 then 255 else if c = 115 then s else if c = 83 then 255 - s else if c = 100 then d else if c = 68 then 255 - d else 0

set_option maxHeartbeats 4000000 in
theorem take_calls (c s d : Int) (hc : c = 48 ∨ c = 49 ∨ c = 115 ∨ c = 83 ∨ c = 100 ∨ c = 68) (s0 : 0 ≤ s) (s1 : s ≤ 255) (d0 : 0 ≤ d) (d1 : d ≤ 255) (w : World) :
    Calls Tryd.prog 30 #[.int .u8 c, .int .u8 s, .int .u8 d] w fun e w' => e = .returned (.int .i64 (takeV c s d)) ∧ w = w' := by
  unfold takeV
  rcases hc with rfl | rfl | rfl | rfl | rfl | rfl
  all_goals
    simp only [if_true, if_false, reduceIte, Int.reduceEq]
    go_enter Tryd.func30, Tryd.ntmps30
    go_wp2
    go_ret
    exact ⟨by simp, rfl⟩

set_option maxHeartbeats 4000000 in
theorem right_calls (o : Int) (w : World) : Calls Tryd.prog 16 #[.int .i64 o] w fun e w' => e = .returned (.bool (decide (0 ≤ o ∧ o < 12))) ∧ w = w' := by
  by_cases h0 : 0 ≤ o
  · by_cases h1 : o < 12
    · rw [show decide (0 ≤ o ∧ o < 12) = true from decide_eq_true ⟨h0, h1⟩]
      go_enter Tryd.func16, Tryd.ntmps16
      go_wp2
      go_ret
      exact ⟨by simp, rfl⟩
    · rw [show decide (0 ≤ o ∧ o < 12) = false from decide_eq_false (by omega)]
      go_enter Tryd.func16, Tryd.ntmps16
      go_wp2
      go_ret
      exact ⟨by simp, rfl⟩
  · rw [show decide (0 ≤ o ∧ o < 12) = false from decide_eq_false (by omega)]
    go_enter Tryd.func16, Tryd.ntmps16
    go_wp2
    go_ret
    exact ⟨by simp, rfl⟩

/-- What an operator takes of the source, of the destination. -/
def signs (o : Int) : Int × Int :=
  if o = 0 then (48, 48) else if o = 1 then (49, 48) else if o = 2 then (48, 49) else if o = 3 then (49, 83) else if o = 4 then (68, 49) else if o = 5 then (100, 48)
  else if o = 6 then (48, 115) else if o = 7 then (68, 48) else if o = 8 then (48, 83) else if o = 9 then (100, 83) else if o = 10 then (68, 115) else if o = 11 then (68, 83) else (48, 48)
def facV (o s d : Int) : Int × Int := (takeV (signs o).1 s d, takeV (signs o).2 s d)

theorem idx0 (a b : UInt8) : (⟨#[a, b]⟩ : ByteArray).size = 2 := rfl

set_option maxHeartbeats 8000000 in
/-- Any operator whose entry bears these two signs. -/
theorem factors_gen (n : Nat) (hn : n < 12) (a b : UInt8) (A B : Int) (hA : (a.toNat : Int) = A) (hB : (b.toNat : Int) = B) (hA2 : A = 48 ∨ A = 49 ∨ A = 115 ∨ A = 83 ∨ A = 100 ∨ A = 68) (hB2 : B = 48 ∨ B = 49 ∨ B = 115 ∨ B = 83 ∨ B = 100 ∨ B = 68)
    (s d : Int) (s0 : 0 ≤ s) (s1 : s ≤ 255) (d0 : 0 ≤ d) (d1 : d ≤ 255) (w : World) (hc : w.cell? ⟨0, n * 2 + 1, none⟩ = some (.string ⟨#[a, b]⟩)) :
    Calls Tryd.prog 13 #[.int .i64 (n : Int), .int .u8 s, .int .u8 d] w fun e w' => e = .returned (.tuple #[.int .i64 (takeV A s d), .int .i64 (takeV B s d)]) ∧ Below w.heap.size w w' := by
  have R := fun w => right_calls (n : Int) w
  have q : decide (0 ≤ (n : Int) ∧ (n : Int) < 12) = true := decide_eq_true (by omega)
  rw [q] at R
  have RR := Lib.hid R
  have TA := Lib.hid (fun w => take_calls A s d hA2 s0 s1 d0 d1 w)
  have TB := Lib.hid (fun w => take_calls B s d hB2 s0 s1 d0 d1 w)
  have b0 : ((⟨#[a, b]⟩ : ByteArray)[0]'(show 0 < 2 by decide)).toNat = a.toNat := rfl
  have b1 : ((⟨#[a, b]⟩ : ByteArray)[1]'(show 1 < 2 by decide)).toNat = b.toNat := rfl
  clear q R hA2 hB2
  go_enter Tryd.func13, Tryd.ntmps13
  go_wp2_with (first
    | (go_at_call 16; ((with_reducible refine (RR.out _).mono ?_); rintro e w1 ⟨rfl, rfl⟩)))
  go_region_with (first
    | (go_at_call 30; ((with_reducible refine (TA.out _).mono ?_); rintro e w1 ⟨rfl, rfl⟩))
    | (go_at_call 30; ((with_reducible refine (TB.out _).mono ?_); rintro e w1 ⟨rfl, rfl⟩)))
  all_goals
    go_wp2
    go_ret2
    exact ⟨rfl, by repeat' (first | exact Below.refl _ _ | refine Below.drew ?_ | (refine Below.setCell ?_ (by first | omega | (simp; done) | (simp; omega)) _) | (refine Below.alloc ?_ (by first | omega | (simp; done) | (simp; omega)) _))⟩
end Go.Proofs.YtpmfcedhmfgkiaaDoor.Ops
