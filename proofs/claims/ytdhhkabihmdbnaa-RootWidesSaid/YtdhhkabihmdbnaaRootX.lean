/- The statement RootWides, walked. -/
import Derived.Test.YtdhhkabihmdbnaaRootV
import Derived.Test.YtdhhkabihmdbnaaRef5
namespace Go.Proofs.Ytdhhkabihmdbnaa.Root
open Go Go.RowKit
set_option maxRecDepth 100000
set_option linter.unusedVariables false
set_option linter.unusedSimpArgs false

set_option maxHeartbeats 4000000 in
theorem rootwides_calls (hi lo : Int) (h0 : 0 ≤ hi) (h1 : hi ≤ 18446744073709551615) (l0 : 0 ≤ lo) (l1 : lo ≤ 18446744073709551615) (w : World) : Calls Try.prog 6 #[.int .u64 hi, .int .u64 lo] w fun e w' => e = .returned (.bool true) ∧ Below w.heap.size w w' := by
  have WK := Lib.hid wakes02_calls
  obtain ⟨V, hV⟩ : ∃ V, V = hi * 18446744073709551616 + lo := ⟨_, rfl⟩
  have V0 : 0 ≤ V := by omega
  have V1 : V < 340282366920938463463374607431768211456 := by omega
  have FA := Lib.hid (fun w => wide_any V hi lo (rootL V 0 64) hV h0 h1 l0 l1 (isRoot_of V0 V1) w)
  have FB := Lib.hid (fun w => wide0_calls lo l0 (by omega) w)
  have FF := Lib.hid (fun w => floor_calls lo l0 (by omega) w)
  have RW := Lib.hid (fun w => Ref.wide2_calls hi lo h0 (by omega) l0 (by omega) w)
  rw [← hV] at RW
  have RR := Lib.hid (fun s A ps ca hs w hA ha => Ref.root2_calls s A ps ca V hs V1 w hA ha)
  generalize rootL V 0 64 = R at *
  generalize rootF lo = r at *
  clear hV
  have hB := Below.refl w.heap.size w
  go_enter Try.func6, Try.ntmps6
  go_wp2_with (first
    | ((go_at_call 23; ((with_reducible refine (WK.out _).mono ?_); rintro e w1 ⟨rfl, hb1⟩)); replace hB := hB.trans (hb1.mono hB.size))
    | ((go_at_call 25; ((with_reducible refine (FA.out _).mono ?_); rintro e w2 ⟨rfl, hb2⟩)); replace hB := hB.trans (hb2.mono hB.size))
    | (go_at_call 27; ((with_reducible refine (RW.out _).mono ?_); rintro e w3 h; obtain ⟨r3, C3, d3, c3, rfl, o3, e3⟩ := h.pos V0; replace hB := hB.trans (o3.bel.mono hB.size)))
    | (go_at_call 26; ((with_reducible refine (RR.out _ _ _ _ e3 _ o3.row o3.says).mono ?_); rintro e w4 ⟨rfl, hb4⟩; replace hB := hB.trans (hb4.mono hB.size)))
    | ((go_at_call 25; ((with_reducible refine (FB.out _).mono ?_); rintro e w5 ⟨rfl, hb5⟩)); replace hB := hB.trans (hb5.mono hB.size))
    | ((go_at_call 24; ((with_reducible refine (FF.out _).mono ?_); rintro e w6 ⟨rfl, hb6⟩)); replace hB := hB.trans (hb6.mono hB.size)))
  all_goals
    go_ret
    exact ⟨by simp, hB⟩
end Go.Proofs.Ytdhhkabihmdbnaa.Root
