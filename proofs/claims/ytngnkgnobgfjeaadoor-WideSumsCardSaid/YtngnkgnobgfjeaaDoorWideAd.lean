/- Package wide's Add, walked: the sum of all. In a world that holds nought. -/
import Derived.Test.YtngnkgnobgfjeaaDoorWideWk
import Derived.Test.YtngnkgnobgfjeaaDoorOpen
import Derived.LoopTactic
import Derived.Deep.DrawnRows
import Derived.Deep.RegionHeld3
import Derived.Deep.RegionWith
namespace Go.Proofs.YtngnkgnobgfjeaaDoor.Wide
open Go Go.RowKit Open
set_option maxRecDepth 100000
set_option linter.unusedVariables false
set_option linter.unusedSimpArgs false
attribute [local go_sem ↓] Go.wp_at_zero Go.wp_at_succ

/-- A world that holds nought. -/
def Nought (w : World) : Prop := 0 < w.heap.size ∧ w.cell? ⟨0, 0, none⟩ = some (.int .u64 0) ∧ w.cell? ⟨0, 1, none⟩ = some (.int .u64 0)
theorem Nought.below {w w' : World} (h : Nought w) (hb : Below w.heap.size w w') : Nought w' :=
  ⟨Nat.lt_of_lt_of_le h.1 hb.size, (hb.cell (p := ⟨0, 0, none⟩) h.1).trans h.2.1, (hb.cell (p := ⟨0, 1, none⟩) h.1).trans h.2.2⟩
def sumV : List Int → Int
  | [] => 0
  | a :: l => a + sumV l
theorem sumV_take {l : List Int} {k : Nat} (hk : k < l.length) : sumV (l.take (k + 1)) = sumV (l.take k) + l[k] := by
  induction l generalizing k with
  | nil => simp at hk
  | cons a l ih =>
    cases k with
    | zero => simp [sumV]
    | succ k =>
      have := ih (k := k) (by simpa using hk)
      simp only [List.take_succ_cons, sumV, List.getElem_cons_succ, this]; omega
theorem sumV_bd {l : List Int} (h : ∀ a ∈ l, -9223372036854775808 ≤ a ∧ a ≤ 9223372036854775807) : -9223372036854775808 * (l.length : Int) ≤ sumV l ∧ sumV l ≤ 9223372036854775807 * (l.length : Int) := by
  induction l with
  | nil => simp [sumV]
  | cons a l ih =>
    have h1 := h a (List.mem_cons_self ..)
    have h2 := ih fun b hb => h b (List.mem_cons_of_mem _ hb)
    simp only [sumV, List.length_cons]
    omega
/-- What the loads read, in a world that a call has left. -/
theorem ld_keep {W W1 : World} {g b o : Nat} {v0 v1 v2 : Value} (h : W.cell? ⟨g, 0, none⟩ = some v0 ∧ W.cell? ⟨g, 1, none⟩ = some v1 ∧ W.cell? ⟨b, o, none⟩ = some v2 ∧ g < W.heap.size ∧ b < W.heap.size) (hb : Below W.heap.size W W1) : W1.cell? ⟨g, 0, none⟩ = some v0 ∧ W1.cell? ⟨g, 1, none⟩ = some v1 ∧ W1.cell? ⟨b, o, none⟩ = some v2 ∧ g < W1.heap.size ∧ b < W1.heap.size :=
  ⟨(hb.cell (p := ⟨g, 0, none⟩) h.2.2.2.1).trans h.1, (hb.cell (p := ⟨g, 1, none⟩) h.2.2.2.1).trans h.2.1, (hb.cell (p := ⟨b, o, none⟩) h.2.2.2.2).trans h.2.2.1, Nat.lt_of_lt_of_le h.2.2.2.1 hb.size, Nat.lt_of_lt_of_le h.2.2.2.2 hb.size⟩
theorem Holds2.drew {W : World} {b : Nat} {x0 x1 : Value} (h : Holds2 W b x0 x1) : Holds2 W.drew b x0 x1 := h
set_option maxHeartbeats 4000000 in
theorem sum_calls (A : Option Addr) (l : List Int) (cap : Nat) (w : World) (hA : IntRow w .i64 A l) (hl : l.length ≤ 100) (hN : Nought w) :
    Calls Tryd.prog 5 #[.slice A l.length cap] w fun e w' => e = .returned (.tuple #[.int .i64 (fitV (sumV l)), .bool (fitB (sumV l))]) ∧ Below w.heap.size w w' := by
  have hbd : ∀ k, k ≤ l.length → -922337203685477580800 ≤ sumV (l.take k) ∧ sumV (l.take k) ≤ 922337203685477580800 := fun k hk => by
    have h := sumV_bd (l := l.take k) (fun a ha => by have := hA.wf a (List.mem_of_mem_take ha); exact Num.wf_i64 this)
    rw [List.length_take, Nat.min_eq_left hk] at h
    omega
  have HBD := Lib.hid hbd
  clear hbd
  go_enter Tryd.func5, Tryd.ntmps5
  obtain ⟨n0, n1, n2⟩ := hN
  go_wp2
  go_loopw [10] (fun i wr => ∃ k : Nat, k ≤ l.length ∧ i = .int .i64 (k : Int) ∧ ∃ hi lo, Big (sumV (l.take k)) hi lo ∧ Holds2 wr w.heap.size (.int .u64 hi) (.int .u64 lo) ∧ Below w.heap.size w wr) (fun i _ => 200 - (intOf i).toNat)
  case atStart => exact ⟨0, Nat.zero_le _, rfl, 0, 0, ⟨by decide, by decide, by decide, by decide, by simp [sumV]⟩, Holds2.new _ _ _ _, below_a1 _ _⟩
  case round =>
    obtain ⟨k, hk, rfl, hi, lo, hG, hH, hB⟩ := hrel
    by_cases hp : k < l.length
    · have hi0 : (0 : Int) ≤ (k : Int) := by omega
      have hi1 : (k : Int) < (l.length : Int) := by omega
      obtain ⟨b, off, rfl, hb, hc⟩ := (hA.below hB).cell k hp
      have hx := Num.wf_i64 (hA.wf _ (List.getElem_mem hp))
      have hx' : l[k]?.getD 0 = l[k] := by simp [hp]
      rw [← hx'] at hx
      have hst := sumV_take hp
      rw [← hx'] at hst
      clear hx'
      generalize hz : l[k]?.getD 0 = x at *
      clear hz
      have O := Lib.hid (fun w => of_calls x w)
      have D := Lib.hid (fun w => add_calls hG (Big.of hx.1 hx.2) w)
      obtain ⟨h1, h2, h3, h4, h5⟩ := hH
      have HH : Holds2 wr w.heap.size (.int .u64 hi) (.int .u64 lo) := ⟨h1, h2, h3, h4, h5⟩
      have H2 := Lib.hid HH
      have j0 : wr.drew.cell? ⟨w.heap.size, 0, none⟩ = some (.int .u64 hi) := h1
      have j1 : wr.drew.cell? ⟨w.heap.size, 1, none⟩ = some (.int .u64 lo) := h2
      have j2 : wr.drew.cell? ⟨b, off + k, none⟩ = some (.int .i64 x) := hc
      have j3 : b < wr.drew.heap.size := hb
      have j4 : w.heap.size < wr.drew.heap.size := h5
      clear HH
      go_wp2
      go_region_with (first
          | (go_at_call 10; ((with_reducible refine (O.out _).mono ?_); rintro e w1 ⟨rfl, hb1⟩; obtain ⟨k1, k2, k3, k4, k5⟩ := H2.out.drew.below hb1))
          | (go_at_call 9; ((with_reducible refine (D.out _).mono ?_); rintro e w2 ⟨rh, rl, BR, rfl, hb2⟩; have hK := (H2.out.drew.below hb1).below hb2; obtain ⟨t1, t2, t3, t4, t5⟩ := hK)))
      all_goals go_wp2
      all_goals go_roundw
      all_goals first
        | (show 200 - _ < 200 - _; simp [intOf]; omega)
        | exact ⟨k + 1, by omega, by go_num, rh, rl, by rw [hst]; exact BR, ((H2.out.drew.below hb1).below hb2).set _ _, ((((hB.drew).trans (hb1.mono hB.size)).trans (hb2.mono (Nat.le_trans hB.size hb1.size))).setCell (Nat.le_refl _) _).setCell (Nat.le_refl _) _⟩
    · obtain rfl : k = l.length := by omega
      obtain ⟨z0, z1⟩ := HBD.out _ (Nat.le_refl _)
      rw [List.take_length] at hG z0 z1
      have P := Lib.hid (fun w => plain_calls hG (by omega) (by omega) w)
      obtain ⟨h1, h2, h3, h4, h5⟩ := hH
      clear z0 z1 HBD
      go_wp2_with (go_at_call 11; ((with_reducible refine (P.out _).mono ?_); rintro e w1 ⟨rfl, hb1⟩))
      go_ret2
      exact ⟨by simp, hB.trans (hb1.mono hB.size)⟩
end Go.Proofs.YtngnkgnobgfjeaaDoor.Wide
