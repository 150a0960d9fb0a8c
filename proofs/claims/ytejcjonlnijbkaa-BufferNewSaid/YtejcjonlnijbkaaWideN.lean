/- Package wide's Within, walked: numbers within a bound. For all arguments. -/
import Derived.Test.YtejcjonlnijbkaaWm2
import Derived.Test.YtejcjonlnijbkaaOpen
import Derived.LoopTactic
namespace Go.Proofs.Ytejcjonlnijbkaa.Wide
open Go Go.RowKit
set_option maxRecDepth 100000
set_option linter.unusedVariables false
set_option linter.unusedSimpArgs false

def inB (bound : Int) (z : Int) : Bool := decide (0 < bound ∧ z < bound ∧ -bound < z)

theorem all_take_succ {p : Int → Bool} {zs : List Int} {k : Nat} (hk : k < zs.length) : (zs.take (k + 1)).all p = ((zs.take k).all p && p (zs[k]?.getD 0)) := by
  rw [List.take_succ_eq_append_getElem hk, List.all_append]; simp [hk]
theorem all_false_of {p : Int → Bool} {zs : List Int} {k : Nat} (hk : k < zs.length) (h : p (zs[k]?.getD 0) = false) : zs.all p = false := by
  rw [List.all_eq_false]
  exact ⟨zs[k], List.getElem_mem hk, by simpa [hk] using h⟩
theorem wf_at {zs : List Int} {k : IntKind} (h : ∀ z ∈ zs, (Lit.int k z).wf = true) {i : Nat} (hi : i < zs.length) : (Lit.int k (zs[i]?.getD 0)).wf = true := by
  simpa [hi] using h zs[i] (List.getElem_mem hi)

set_option maxHeartbeats 2000000 in
theorem within_calls (bound : Int) (A : Option Addr) (zs : List Int) (cap : Nat) (b0 : -9223372036854775808 ≤ bound) (b1 : bound ≤ 9223372036854775807) (hm : zs.length ≤ maxLen) (w : World) (hA : Open.IntRow w .i64 A zs) :
    Calls Try.prog 42 #[.int .i64 bound, .slice A zs.length cap] w fun e w' => e = .returned (.bool (zs.all (inB bound))) ∧ w = w' := by
  unfold maxLen at hm
  obtain ⟨r, hr⟩ : ∃ r, zs.all (inB bound) = r := ⟨_, rfl⟩
  rw [hr]
  have HR := Lib.hid hr
  clear hr
  go_enter Try.func42, Try.ntmps42
  go_wp2
  go_loop [9] (fun i => ∃ k : Nat, k ≤ zs.length ∧ i = .int .i64 k ∧ (zs.take k).all (inB bound) = true) (fun i => zs.length - (intOf i).toNat)
  case atStart => exact ⟨0, Nat.zero_le _, rfl, by simp⟩
  case round =>
    obtain ⟨k, hk, rfl, hall⟩ := hrel
    have HA := Lib.hid hall
    clear hall
    by_cases hlt : k < zs.length
    · obtain ⟨b, off, rfl, hb, hc⟩ := hA.cell k hlt
      have hwf := Num.wf_i64 (wf_at hA.wf hlt)
      have hs := all_take_succ (p := inB bound) hlt
      have hf := all_false_of (p := inB bound) hlt
      generalize (zs[k]?.getD 0) = z at *
      have HS := Lib.hid hs
      have HF := Lib.hid hf
      clear hs hf hA
      by_cases h1 : 0 < bound
      · by_cases h2 : z < bound
        · by_cases h3 : -bound < z
          · have hz : inB bound z = true := by unfold inB; simp [h1, h2, h3]
            have HZ := Lib.hid hz
            clear hz
            go_wp2
            go_round
            case rel => exact ⟨k + 1, by omega, by go_num, by rw [HS.out, HA.out, HZ.out]; rfl⟩
            case measure => simp [intOf]; omega
          · obtain rfl : r = false := by rw [← HR.out]; exact HF.out (by unfold inB; simp; omega)
            clear HR
            go_wp2
            go_ret
            exact ⟨rfl, rfl⟩
        · obtain rfl : r = false := by rw [← HR.out]; exact HF.out (by unfold inB; simp; omega)
          clear HR
          go_wp2
          go_ret
          exact ⟨rfl, rfl⟩
      · obtain rfl : r = false := by rw [← HR.out]; exact HF.out (by unfold inB; simp; omega)
        clear HR
        go_wp2
        go_ret
        exact ⟨rfl, rfl⟩
    · obtain rfl : k = zs.length := by omega
      obtain rfl : r = true := by rw [← HR.out]; have := HA.out; rwa [List.take_length] at this
      clear HR
      go_wp2
      go_ret
      exact ⟨rfl, rfl⟩

end Go.Proofs.Ytejcjonlnijbkaa.Wide
