/- Package root's Steps and Floor, walked: the numbers of which a root is put together; the root of any number of 64 bits. For all numbers. -/
import Derived.Test.YtdhhkabihmdbnaaRootNum
import Derived.Test.YtdhhkabihmdbnaaProg
import Derived.OwnWalk
import Derived.Tactics
import Derived.KernelRfl
import Derived.RowKit3
import Derived.WideLaws
import Derived.Lib.Hide
import Derived.Laws.Unary
import Derived.Test.YtdhhkabihmdbnaaSeq
import Derived.Test.YtdhhkabihmdbnaaNum
import Derived.LoopTactic
namespace Go.Proofs.Ytdhhkabihmdbnaa.Root
open Go Go.RowKit Go.Shelf Range
set_option maxRecDepth 100000
set_option linter.unusedVariables false
set_option linter.unusedSimpArgs false
attribute [local go_sem] Oper.semAt_some

def encU (x : Int) : Array Value := #[.int .u64 x]
/-- The bit that is tried next, with j to go. -/
def bt : Nat → Int
  | 0 => 0
  | j + 1 => pw j
theorem bt_half (j : Nat) : pw j / 2 = bt j := by
  cases j with
  | zero => rfl
  | succ j => show pw (j + 1) / 2 = pw j; rw [pw_succ]; omega

theorem steps_calls (N : Int) (w : World) : Calls Try.prog 35 #[.int .u64 N] w fun e w' => e = .returned (.func (.func 46) #[] #[.pointer (some ⟨w.heap.size, 0, none⟩)]) ∧ w' = w.alloc (.cells #[.int .u64 N] 53) := by
  go_enter Try.func35, Try.ntmps35
  go_wp2
  go_ret
  exact ⟨rfl, rfl⟩

set_option maxHeartbeats 8000000 in
theorem steps_gives (n₀ Bn : Nat) (N : Int) (N0 : 0 ≤ N) (N1 : N < 18446744073709551616) (w : World) (hb : Bn < w.heap.size) (hc : w.cell? ⟨Bn, 0, none⟩ = some (.int .u64 N)) :
    Seq.Gives Try.prog false 46 #[.pointer (some ⟨Bn, 0, none⟩)] encU n₀ [Bn] (steps N) w := by
  intro l J Jx W hW hJ _ hY h0
  have hc0 : W.cell? ⟨Bn, 0, none⟩ = some (.int .u64 N) := (hW.cell (p := ⟨Bn, 0, none⟩) hb).trans hc
  clear hc hW hb
  refine callsIn_of_wp Try.func46 rfl trivial ?_ rfl
  simp only [Try.ntmps46, List.size_toArray, List.length_cons, List.length_nil, Nat.reduceAdd, Nat.reduceSub, Array.replicate_succ, Array.replicate_zero, List.push_toArray, List.append_toArray, List.nil_append, List.cons_append]
  gi_wp2
  gi_loopw [3, 4] (fun r b wr => ∃ (j : Nat) (R : Int) (k : Nat), r = .int .u64 R ∧ b = .int .u64 (bt j) ∧ At N R j ∧ j ≤ 32 ∧ (steps N).drop k = stepsL N R j ∧ k ≤ (steps N).length ∧ J k wr ∧ W.heap.size ≤ wr.heap.size ∧ wr.cell? ⟨Bn, 0, none⟩ = some (.int .u64 N)) (fun r b _ => (intOf b).toNat)
  case atStart => exact ⟨32, 0, 0, rfl, rfl, At.start N0 N1, by omega, rfl, Nat.zero_le _, h0, Nat.le_refl _, hc0⟩
  case round =>
    obtain ⟨j, R, k, rfl, rfl, hA, hj, hd, hk, hJk, hsz, hcw⟩ := hrel
    cases j with
    | zero =>
      have hl : k = (steps N).length := by
        have := congrArg List.length hd
        simp [stepsL] at this; omega
      subst hl
      rw [show bt 0 = 0 from rfl]
      gi_wp2
      go_end0
      exact ⟨⟨_, rfl⟩, .inl hJk⟩
    | succ j =>
      have hp := pw_pos j
      have hpl := pw_le (show j ≤ 31 by omega)
      have e31 : pw 31 = 2147483648 := by decide
      rw [e31] at hpl
      have hr0 := hA.r0
      have hfit := hA.fits
      rw [pw_succ] at hfit
      have m0 : 0 ≤ (R + pw j) * (R + pw j) := Int.mul_nonneg (by omega) (by omega)
      have m1 : (R + pw j) * (R + pw j) ≤ 4294967295 * 4294967295 := sq_le (by omega) (by omega)
      have hb := bt_half j
      have HA := Lib.hid hA
      have HB := Lib.hid hb
      have HD := Lib.hid hd
      clear hA hb hd e31
      rw [show bt (j + 1) = pw j from rfl]
      by_cases hy : (R + pw j) * (R + pw j) ≤ N
      · have hd := HD.out
        unfold stepsL at hd
        rw [if_pos hy] at hd
        have hx : (steps N)[k]? = some (R + pw j) := by
          have := congrArg (·[0]?) hd
          simpa using this
        have hd2 : (steps N).drop (k + 1) = stepsL N (R + pw j) j := by
          have := congrArg List.tail hd
          simpa using this
        have hkl := (List.getElem?_eq_some_iff.1 hx).1
        have HD2 := Lib.hid hd2
        have HA2 := Lib.hid (HA.out.yes hy)
        obtain ⟨fn, tmps, assign, body, hy2, hR⟩ := hY k _ wr hx hsz hJk
        have hR := Seq.roundIn_any (ro' := none) (n' := 0 - 1) hR
        unfold encU at hy2
        have HX := Lib.hid hd2
        clear hd hd2 hx
        generalize pw j = b at *
        gi_wp2
        refine hR.mono ?_
        rintro e W3 (⟨rfl, hJ3, hk3⟩ | ⟨rfl, hJx3, _⟩)
        · have hs3 := hk3.1.size
          have hc3 : W3.cell? ⟨Bn, 0, none⟩ = some (.int .u64 N) := (World.cell?_of_block (hk3.2.2 Bn (by simp))).trans hcw
          gi_wp2
          go_roundw
          case rel => exact ⟨j, R + b, k + 1, rfl, by rw [HB.out], HA2.out, by omega, HD2.out, hkl, hJ3, Nat.le_trans hsz hs3, hc3⟩
          case measure => simp [intOf]; omega
        · gi_wp2
          refine bodyPost_ret (results_none rfl _ _ _) rfl ?_
          exact ⟨⟨_, rfl⟩, .inr ⟨k + 1, hkl, hJx3⟩⟩
      · have HA2 := Lib.hid (HA.out.no hy)
        have HD2 : Hid ((steps N).drop k = stepsL N R j) := Lib.hid (by
          have := HD.out
          unfold stepsL at this
          rwa [if_neg hy] at this)
        have hy' : N < (R + pw j) * (R + pw j) := by omega
        clear hy
        generalize pw j = b at *
        gi_wp2
        go_roundw
        case rel => exact ⟨j, R, k, rfl, by rw [HB.out], HA2.out, by omega, HD2.out, hk, hJk, hsz, hcw⟩
        case measure => simp [intOf]; omega
end Go.Proofs.Ytdhhkabihmdbnaa.Root
