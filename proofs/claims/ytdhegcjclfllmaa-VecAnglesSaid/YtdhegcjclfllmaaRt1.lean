/- Square roots, bit by bit: the numbers of which a root is put together. Plain: for all numbers. -/
import Derived.Test.YtdhegcjclfllmaaProg
import Derived.OwnWalk
import Derived.Tactics
import Derived.KernelRfl
import Derived.RowKit3
import Derived.WideLaws
import Derived.Lib.Hide
import Derived.Laws.Unary
import Derived.Test.YtdhegcjclfllmaaSm
import Derived.Test.YtdhegcjclfllmaaWm1
import Derived.LoopTactic
import Derived.Test.YtdhegcjclfllmaaShelf
import Derived.Laws.Externs
import Derived.Test.YtdhegcjclfllmaaWm2
namespace Go.Proofs.Ytdhegcjclfllmaa.Root
/-- 2 to the j. -/
def pw (j : Nat) : Int := (2 : Int) ^ j
theorem pw_succ (j : Nat) : pw (j + 1) = 2 * pw j := by unfold pw; rw [Int.pow_succ]; omega
theorem pw_pos (j : Nat) : 0 < pw j := by
  induction j with
  | zero => decide
  | succ j ih => rw [pw_succ]; omega
theorem pw_le {i j : Nat} (h : i ≤ j) : pw i ≤ pw j := by
  induction j with
  | zero => obtain rfl : i = 0 := by omega
            exact Int.le_refl _
  | succ j ih =>
    by_cases e : i = j + 1
    · subst e; exact Int.le_refl _
    · have := ih (by omega); have := pw_pos j; rw [pw_succ]; omega

/-- From r on, with j bits to go: what is told. -/
def stepsL (N r : Int) : Nat → List Int
  | 0 => []
  | j + 1 => if (r + pw j) * (r + pw j) ≤ N then (r + pw j) :: stepsL N (r + pw j) j else stepsL N r j
/-- .. and where it ends. -/
def rootL (N r : Int) : Nat → Int
  | 0 => r
  | j + 1 => if (r + pw j) * (r + pw j) ≤ N then rootL N (r + pw j) j else rootL N r j
def rootF (N : Int) : Int := rootL N 0 32
def steps (N : Int) : List Int := stepsL N 0 32

theorem sq_lt {a b : Int} (a0 : 0 ≤ a) (h : a < b) : a * a < b * b := by
  have h1 : a * a ≤ a * b := Int.mul_le_mul_of_nonneg_left (by omega) a0
  have h2 : a * b < b * b := Int.mul_lt_mul_of_pos_right h (by omega)
  omega
theorem sq_le {a b : Int} (a0 : 0 ≤ a) (h : a ≤ b) : a * a ≤ b * b := Int.mul_le_mul h h a0 (by omega)
theorem lt_of_sq {a b : Int} (b0 : 0 ≤ b) (h : a * a < b * b) : a < b := by
  rcases Int.lt_or_le a b with h1 | h1
  · exact h1
  · have := sq_le b0 h1; omega

/-- What holds with j bits to go. -/
structure At (N r : Int) (j : Nat) : Prop where
  r0 : 0 ≤ r
  le : r * r ≤ N
  lt : N < (r + pw j) * (r + pw j)
  fits : r + pw j ≤ 4294967296
theorem At.start {N : Int} (h0 : 0 ≤ N) (h1 : N < 18446744073709551616) : At N 0 32 := ⟨by decide, by omega, by simpa [pw] using h1, by decide⟩
theorem At.yes {N r : Int} {j : Nat} (h : At N r (j + 1)) (hy : (r + pw j) * (r + pw j) ≤ N) : At N (r + pw j) j := by
  have hp := pw_pos j
  have e := pw_succ j
  refine ⟨by have := h.r0; omega, hy, ?_, ?_⟩
  · have := h.lt; rw [e] at this; rwa [show r + pw j + pw j = r + 2 * pw j by omega]
  · have := h.fits; rw [e] at this; omega
theorem At.no {N r : Int} {j : Nat} (h : At N r (j + 1)) (hn : ¬ (r + pw j) * (r + pw j) ≤ N) : At N r j := by
  have hp := pw_pos j
  have e := pw_succ j
  exact ⟨h.r0, h.le, by omega, by have := h.fits; rw [e] at this; omega⟩
theorem At.root {N : Int} : ∀ {r : Int} {j : Nat}, At N r j → At N (rootL N r j) 0
  | _, 0, h => h
  | r, j + 1, h => by
    unfold rootL
    split
    · rename_i hy; exact At.root (h.yes hy)
    · rename_i hn; exact At.root (h.no hn)
theorem rootF_spec {N : Int} (h0 : 0 ≤ N) (h1 : N < 18446744073709551616) : 0 ≤ rootF N ∧ rootF N * rootF N ≤ N ∧ N < (rootF N + 1) * (rootF N + 1) ∧ rootF N ≤ 4294967295 := by
  have h := (At.start h0 h1).root
  have e : pw 0 = 1 := rfl
  have := h.lt
  have := h.fits
  rw [e] at *
  exact ⟨h.r0, h.le, by assumption, by unfold rootF; omega⟩
theorem root_unique {N a b : Int} (a0 : 0 ≤ a) (b0 : 0 ≤ b) (h1 : a * a ≤ N) (h2 : N < (a + 1) * (a + 1)) (h3 : b * b ≤ N) (h4 : N < (b + 1) * (b + 1)) : a = b := by
  have := lt_of_sq (a := a) (b := b + 1) (by omega) (by omega)
  have := lt_of_sq (a := b) (b := a + 1) (by omega) (by omega)
  omega
theorem stepsL_last {N : Int} : ∀ {r : Int} {j : Nat}, (stepsL N r j).getLastD r = rootL N r j
  | _, 0 => rfl
  | r, j + 1 => by
    unfold stepsL rootL
    split
    · rw [List.getLastD_cons]; exact stepsL_last
    · exact stepsL_last
theorem steps_last (N : Int) : (steps N).getLastD 0 = rootF N := stepsL_last
theorem stepsL_length {N : Int} : ∀ {r : Int} {j : Nat}, (stepsL N r j).length ≤ j
  | _, 0 => Nat.le_refl _
  | r, j + 1 => by
    unfold stepsL
    split
    · simpa using stepsL_length (r := r + pw j) (j := j)
    · exact Nat.le_trans stepsL_length (Nat.le_succ _)
/-- All that are told are roots of at most N, and numbers of 32 bits. -/
theorem stepsL_mem {N : Int} : ∀ {r : Int} {j : Nat}, At N r j → ∀ x ∈ stepsL N r j, 0 ≤ x ∧ x ≤ 4294967295
  | _, 0, _, x, hx => by cases hx
  | r, j + 1, h, x, hx => by
    unfold stepsL at hx
    split at hx
    · rename_i hy
      have hz := h.yes hy
      rcases List.mem_cons.1 hx with rfl | hx
      · have := hz.r0; have := hz.fits; have := pw_pos j; omega
      · exact stepsL_mem hz x hx
    · rename_i hn; exact stepsL_mem (h.no hn) x hx
/-- The last of the first k. -/
def lastOf (l : List Int) (k : Nat) : Int := (l.take k).getLastD 0
theorem lastOf_succ {l : List Int} {k : Nat} {x : Int} (h : l[k]? = some x) : lastOf l (k + 1) = x := by
  unfold lastOf
  obtain ⟨hk, rfl⟩ := List.getElem?_eq_some_iff.1 h
  rw [List.take_succ_eq_append_getElem hk, List.getLastD_concat]
theorem lastOf_all (l : List Int) : lastOf l l.length = l.getLastD 0 := by unfold lastOf; rw [List.take_length]
end Go.Proofs.Ytdhegcjclfllmaa.Root

/- Package root's Steps and Floor, walked: the numbers of which a root is put together; the root of any number of 64 bits. For all numbers. -/
namespace Go.Proofs.Ytdhegcjclfllmaa.Root
open Go Go.RowKit Go.Shelf Range
set_option maxRecDepth 100000
set_option linter.unusedVariables false
set_option linter.unusedSimpArgs false
attribute [local go_sem] Oper.semAt_some

def encU (x : Int) : Array Value := #[.int .u64 x]
/-- The bit that is tried next, with j to go. -/
def bt : Nat → Int
  | 0 => 0
  | j + 1 => pw j
theorem bt_half (j : Nat) : pw j / 2 = bt j := by
  cases j with
  | zero => rfl
  | succ j => show pw (j + 1) / 2 = pw j; rw [pw_succ]; omega

theorem steps_calls (N : Int) (w : World) : Calls Try.prog 88 #[.int .u64 N] w fun e w' => e = .returned (.func (.func 99) #[] #[.pointer (some ⟨w.heap.size, 0, none⟩)]) ∧ w' = w.alloc (.cells #[.int .u64 N] 64) := by
  go_enter Try.func88, Try.ntmps88
  go_wp2
  go_ret
  exact ⟨rfl, rfl⟩

set_option maxHeartbeats 8000000 in
theorem steps_gives (n₀ Bn : Nat) (N : Int) (N0 : 0 ≤ N) (N1 : N < 18446744073709551616) (w : World) (hb : Bn < w.heap.size) (hc : w.cell? ⟨Bn, 0, none⟩ = some (.int .u64 N)) :
    Seq.Gives Try.prog false 99 #[.pointer (some ⟨Bn, 0, none⟩)] encU n₀ [Bn] (steps N) w := by
  intro l J Jx W hW hJ _ hY h0
  have hc0 : W.cell? ⟨Bn, 0, none⟩ = some (.int .u64 N) := (hW.cell (p := ⟨Bn, 0, none⟩) hb).trans hc
  clear hc hW hb
  refine callsIn_of_wp Try.func99 rfl trivial ?_ rfl
  simp only [Try.ntmps99, List.size_toArray, List.length_cons, List.length_nil, Nat.reduceAdd, Nat.reduceSub, Array.replicate_succ, Array.replicate_zero, List.push_toArray, List.append_toArray, List.nil_append, List.cons_append]
  gi_wp2
  gi_loopw [3, 4] (fun r b wr => ∃ (j : Nat) (R : Int) (k : Nat), r = .int .u64 R ∧ b = .int .u64 (bt j) ∧ At N R j ∧ j ≤ 32 ∧ (steps N).drop k = stepsL N R j ∧ k ≤ (steps N).length ∧ J k wr ∧ W.heap.size ≤ wr.heap.size ∧ wr.cell? ⟨Bn, 0, none⟩ = some (.int .u64 N)) (fun r b _ => (intOf b).toNat)
  case atStart => exact ⟨32, 0, 0, rfl, rfl, At.start N0 N1, by omega, rfl, Nat.zero_le _, h0, Nat.le_refl _, hc0⟩
  case round =>
    obtain ⟨j, R, k, rfl, rfl, hA, hj, hd, hk, hJk, hsz, hcw⟩ := hrel
    cases j with
    | zero =>
      have hl : k = (steps N).length := by
        have := congrArg List.length hd
        simp [stepsL] at this; omega
      subst hl
      rw [show bt 0 = 0 from rfl]
      gi_wp2
      go_end0
      exact ⟨⟨_, rfl⟩, .inl hJk⟩
    | succ j =>
      have hp := pw_pos j
      have hpl := pw_le (show j ≤ 31 by omega)
      have e31 : pw 31 = 2147483648 := by decide
      rw [e31] at hpl
      have hr0 := hA.r0
      have hfit := hA.fits
      rw [pw_succ] at hfit
      have m0 : 0 ≤ (R + pw j) * (R + pw j) := Int.mul_nonneg (by omega) (by omega)
      have m1 : (R + pw j) * (R + pw j) ≤ 4294967295 * 4294967295 := sq_le (by omega) (by omega)
      have hb := bt_half j
      have HA := Lib.hid hA
      have HB := Lib.hid hb
      have HD := Lib.hid hd
      clear hA hb hd e31
      rw [show bt (j + 1) = pw j from rfl]
      by_cases hy : (R + pw j) * (R + pw j) ≤ N
      · have hd := HD.out
        unfold stepsL at hd
        rw [if_pos hy] at hd
        have hx : (steps N)[k]? = some (R + pw j) := by
          have := congrArg (·[0]?) hd
          simpa using this
        have hd2 : (steps N).drop (k + 1) = stepsL N (R + pw j) j := by
          have := congrArg List.tail hd
          simpa using this
        have hkl := (List.getElem?_eq_some_iff.1 hx).1
        have HD2 := Lib.hid hd2
        have HA2 := Lib.hid (HA.out.yes hy)
        obtain ⟨fn, tmps, assign, body, hy2, hR⟩ := hY k _ wr hx hsz hJk
        have hR := Seq.roundIn_any (ro' := none) (n' := 0 - 1) hR
        unfold encU at hy2
        have HX := Lib.hid hd2
        clear hd hd2 hx
        generalize pw j = b at *
        gi_wp2
        refine hR.mono ?_
        rintro e W3 (⟨rfl, hJ3, hk3⟩ | ⟨rfl, hJx3, _⟩)
        · have hs3 := hk3.1.size
          have hc3 : W3.cell? ⟨Bn, 0, none⟩ = some (.int .u64 N) := (World.cell?_of_block (hk3.2.2 Bn (by simp))).trans hcw
          gi_wp2
          go_roundw
          case rel => exact ⟨j, R + b, k + 1, rfl, by rw [HB.out], HA2.out, by omega, HD2.out, hkl, hJ3, Nat.le_trans hsz hs3, hc3⟩
          case measure => simp [intOf]; omega
        · gi_wp2
          refine bodyPost_ret (results_none rfl _ _ _) rfl ?_
          exact ⟨⟨_, rfl⟩, .inr ⟨k + 1, hkl, hJx3⟩⟩
      · have HA2 := Lib.hid (HA.out.no hy)
        have HD2 : Hid ((steps N).drop k = stepsL N R j) := Lib.hid (by
          have := HD.out
          unfold stepsL at this
          rwa [if_neg hy] at this)
        have hy' : N < (R + pw j) * (R + pw j) := by omega
        clear hy
        generalize pw j = b at *
        gi_wp2
        go_roundw
        case rel => exact ⟨j, R, k, rfl, by rw [HB.out], HA2.out, by omega, HD2.out, hk, hJk, hsz, hcw⟩
        case measure => simp [intOf]; omega
end Go.Proofs.Ytdhegcjclfllmaa.Root

/- Package root's Floor, walked: the root of any number of 64 bits. For all numbers. -/
namespace Go.Proofs.Ytdhegcjclfllmaa.Root
open Go Go.RowKit Go.Shelf Range
set_option maxRecDepth 100000
set_option linter.unusedVariables false
set_option linter.unusedSimpArgs false
attribute [local go_sem] Oper.semAt_some

set_option maxHeartbeats 8000000 in
theorem floor_calls (N : Int) (N0 : 0 ≤ N) (N1 : N < 18446744073709551616) (w : World) : Calls Try.prog 66 #[.int .u64 N] w fun e w' => e = .returned (.int .u64 (rootF N)) ∧ Below w.heap.size w w' := by
  have ST := Lib.hid (fun w => steps_calls N w)
  have SG := Lib.hid (fun n₀ Bn => steps_gives n₀ Bn N N0 N1)
  have HL := Lib.hid (lastOf_all (steps N))
  have HF := Lib.hid (steps_last N)
  have HS := Lib.hid (fun k x => @lastOf_succ (steps N) k x)
  have H0 := Lib.hid (show lastOf (steps N) 0 = 0 by simp [lastOf])
  generalize rootF N = F at *
  generalize steps N = xs at *
  refine Seq.calls_of (n := 0) (callsIn_of_wp_marks Try.func66 rfl trivial ?_ rfl)
  simp only [Try.ntmps66, List.size_toArray, List.length_cons, List.length_nil, Nat.reduceAdd, Nat.reduceSub, Array.replicate_succ, Array.replicate_zero, List.push_toArray, List.append_toArray, List.nil_append, List.cons_append]
  gi_wp2_with (gi_at_call 88; refine (Seq.of_calls (ST.out _)).mono ?_; rintro e w2 ⟨rfl, rfl⟩)
  obtain ⟨W0, hW0⟩ : ∃ W0, (w.alloc (.cells #[.int .u64 0] 64)).alloc (.cells #[.int .u64 N] 64) = W0 := ⟨_, rfl⟩
  have HB : Below w.heap.size w W0 := by rw [← hW0]; (repeat' (first | (with_reducible exact Below.refl _ _) | (with_reducible refine Below.drew ?_) | (with_reducible refine below_drewN ?_ _) | ((with_reducible refine Below.setCell ?_ ?side_ _); case side_ => (first | (with_reducible exact Nat.le_refl _) | (with_reducible assumption) | omega | (simp; done) | (simp; omega))) | ((with_reducible refine Below.alloc ?_ ?side_ _); case side_ => (first | (with_reducible exact Nat.le_refl _) | (with_reducible assumption) | omega | (simp; done) | (simp; omega)))))
  have hsz : W0.heap.size = w.heap.size + 2 := by rw [← hW0]; simp
  have k1 : W0.cell? ⟨w.heap.size, 0, none⟩ = some (.int .u64 0) := by subst hW0; go_simp
  have k2 : W0.frozen? ⟨w.heap.size, 0, none⟩ = false := by subst hW0; go_simp
  have k3 : W0.cell? ⟨w.heap.size + 1, 0, none⟩ = some (.int .u64 N) := by subst hW0; go_simp
  try simp only [World.size_alloc]
  rw [hW0]
  clear hW0
  refine Seq.range (priv := false) (n₀ := w.heap.size) rfl (enters_of Try.func99 (by kernel_rfl) rfl) (SG.out w.heap.size (w.heap.size + 1) W0 (by omega) k3) (by omega) (fun b hb => by simp at hb; omega) (Below.refl _ _) (fun _ => rfl)
    (fun k W => (W.cell? ⟨w.heap.size, 0, none⟩ = some (.int .u64 (lastOf xs k)) ∧ W.frozen? ⟨w.heap.size, 0, none⟩ = false) ∧ Below w.heap.size w W)
    (fun _ _ _ => False)
    (Seq.Stab.own (OwnFrom.and (Own.from (fun k A B row hs hg hr => ⟨cell_kept hs.1 hg hr, (frozen_kept hs.1 hg hr).trans hs.2⟩) _) (ownFrom_below (Nat.le_refl _) (by omega))))
    (fun c => Seq.Stab.own (fun _ _ _ _ hs _ _ => hs))
    ⟨⟨by rw [H0.out]; exact k1, k2⟩, HB⟩
    (fun x t => (t.setIfInBounds 7 (.int .u64 x)).setIfInBounds 4 (.int .u64 x)) ?assign ?body ?done ?stop
  case assign =>
    intro l x W K hK
    unfold encU
    simp at hK ⊢
    gi_wp2
    exact hK
  case body =>
    rintro l k x W hl ⟨r, hr⟩ hx ⟨⟨c1, f1⟩, hB⟩
    have hs := Lib.hid (HS.out k x hx)
    clear hx
    simp
    gi_wp2
    exact ⟨kf_set (KeepsFrom.refl _ _) _ _, Seq.Kept.of ((Below.refl _ _).setCell (by simp) _) (fun b hb => Below.heap_setCell _ _ _ _ (by simp at hb; simp; omega)), ⟨by rw [hs.out]; go_simp, by go_simp⟩, hB.setCell (by simp) _⟩
  case done =>
    rintro D W hD ⟨⟨c1, f1⟩, hB⟩ hK
    rw [HL.out, HF.out] at c1
    gi_wp2
    refine ⟨by simp, .inl ⟨_, _, rfl, run_takeDeferred hK, ?_⟩⟩
    exact ⟨_, results_tmp rfl _ _ _, rfl, hB.trans (belowK_b (w := w) (Nat.le_refl _) _ D _ _ (by omega) hK rfl rfl)⟩
  case stop =>
    rintro D c k W hD hk h hK
    exact h.elim
end Go.Proofs.Ytdhegcjclfllmaa.Root

/- Package root's square and Hypot, walked, over the words of a 128 bit number; Wide of a short one. For all numbers. -/
namespace Go.Proofs.Ytdhegcjclfllmaa.Root
open Go Go.RowKit
set_option maxRecDepth 100000
set_option linter.unusedVariables false
set_option linter.unusedSimpArgs false

theorem mul64_calls (x y : Int) (x0 : 0 ≤ x) (x1 : x ≤ 18446744073709551615) (y0 : 0 ≤ y) (y1 : y ≤ 18446744073709551615) (w : World) :
    Calls Try.prog 93 #[.int .u64 x, .int .u64 y] w fun e w' => e = .returned (.tuple #[.int .u64 (x * y / 18446744073709551616), .int .u64 (x * y % 18446744073709551616)]) ∧ w = w' := by
  obtain ⟨X, rfl⟩ := Int.eq_ofNat_of_zero_le x0
  obtain ⟨Y, rfl⟩ := Int.eq_ofNat_of_zero_le y0
  refine (Try.bits_Mul64 X Y (by omega) (by omega) w).mono ?_
  rintro e w' ⟨rfl, rfl⟩
  exact ⟨by simp, rfl⟩
theorem add64_law (x y c : Int) (hx : 0 ≤ x) (hy : 0 ≤ y) (hc0 : 0 ≤ c) (hc : c ≤ 1) (w : World) :
    (callFunc 80 #[.int .u64 x, .int .u64 y, .int .u64 c]).run Try.prog w =
      .ok (.value (.tuple #[.int .u64 ((x + y + c) % 18446744073709551616), .int .u64 ((x + y + c) / 18446744073709551616)])) w := by
  rw [run_callFunc_extern (f := 80) (fn := Try.f80) (by kernel_rfl) (by kernel_rfl) (by kernel_rfl) (by kernel_rfl) (e := add64Entry) (by kernel_rfl), run_add64 x y c hx hy hc0 hc]
  rfl

set_option maxHeartbeats 4000000 in
theorem square_calls (a : Int) (a0 : -9223372036854775808 ≤ a) (a1 : a ≤ 9223372036854775807) (w : World) :
    Calls Try.prog 79 #[.int .i64 a] w fun e w' => e = .returned (.tuple #[.int .u64 (a * a / 18446744073709551616), .int .u64 (a * a % 18446744073709551616)]) ∧ w = w' := by
  by_cases h : a < 0
  · have M := Lib.hid (fun w => by have := mul64_calls (-a) (-a) (by omega) (by omega) (by omega) (by omega) w; rw [Int.neg_mul_neg] at this; exact this)
    have e1 : a % 18446744073709551616 = a + 18446744073709551616 := by omega
    have e2 : IntKind.u64.wrap a = a + 18446744073709551616 := by rw [Num.wrap_u64]; omega
    have e3 : IntKind.u64.wrap (-(a + 18446744073709551616)) = -a := by rw [Num.wrap_u64]; omega
    have e4 : (-(a + 18446744073709551616)) % 18446744073709551616 = -a := by omega
    go_enter Try.func79, Try.ntmps79
    go_wp2_with (go_at_call 93; ((with_reducible refine (M.out _).mono ?_); rintro e w1 ⟨rfl, rfl⟩))
    go_ret2
    exact ⟨rfl, rfl⟩
  · have M := Lib.hid (fun w => mul64_calls a a (by omega) (by omega) (by omega) (by omega) w)
    have h' : 0 ≤ a := by omega
    clear h a0
    go_enter Try.func79, Try.ntmps79
    go_wp2_with (go_at_call 93; ((with_reducible refine (M.out _).mono ?_); rintro e w1 ⟨rfl, rfl⟩))
    go_ret2
    exact ⟨rfl, rfl⟩

set_option maxHeartbeats 4000000 in
theorem wide0_calls (N : Int) (N0 : 0 ≤ N) (N1 : N < 18446744073709551616) (w : World) : Calls Try.prog 81 #[.int .u64 0, .int .u64 N] w fun e w' => e = .returned (.int .u64 (rootF N)) ∧ Below w.heap.size w w' := by
  have F := Lib.hid (fun w => floor_calls N N0 N1 w)
  go_enter Try.func81, Try.ntmps81
  go_wp2_with (go_at_call 66; ((with_reducible refine (F.out _).mono ?_); rintro e w1 ⟨rfl, hb1⟩))
  go_ret
  exact ⟨rfl, hb1⟩

/-- The sum of two squares, as two words. -/
theorem hyp_hi {p q : Int} : (p / 18446744073709551616 + q / 18446744073709551616 + (p % 18446744073709551616 + q % 18446744073709551616 + 0) / 18446744073709551616) = (p + q) / 18446744073709551616 := by omega
theorem hyp_lo {p q : Int} : (p % 18446744073709551616 + q % 18446744073709551616 + 0) % 18446744073709551616 = (p + q) % 18446744073709551616 := by omega
theorem sq_i64 {a : Int} (a0 : -9223372036854775808 ≤ a) (a1 : a ≤ 9223372036854775807) : 0 ≤ a * a ∧ a * a ≤ 85070591730234615865843651857942052864 := by
  by_cases h : a < 0
  · have := sq_le (a := -a) (b := 9223372036854775808) (by omega) (by omega)
    rw [Int.neg_mul_neg] at this
    exact ⟨by have := Int.mul_nonneg (show 0 ≤ -a by omega) (show 0 ≤ -a by omega); rwa [Int.neg_mul_neg] at this, by omega⟩
  · have := sq_le (a := a) (b := 9223372036854775808) (by omega) (by omega)
    exact ⟨Int.mul_nonneg (by omega) (by omega), by omega⟩

set_option maxHeartbeats 4000000 in
/-- Hypot: Wide of the sum's two words. -/
theorem hypot_of (x y : Int) (x0 : -9223372036854775808 ≤ x) (x1 : x ≤ 9223372036854775807) (y0 : -9223372036854775808 ≤ y) (y1 : y ≤ 9223372036854775807) (r : Int) (w : World)
    (H : ∀ w, Calls Try.prog 81 #[.int .u64 ((x * x + y * y) / 18446744073709551616), .int .u64 ((x * x + y * y) % 18446744073709551616)] w fun e w' => e = .returned (.int .u64 r) ∧ Below w.heap.size w w') :
    Calls Try.prog 59 #[.int .i64 x, .int .i64 y] w fun e w' => e = .returned (.int .u64 r) ∧ Below w.heap.size w w' := by
  have SX := Lib.hid (fun w => square_calls x x0 x1 w)
  have SY := Lib.hid (fun w => square_calls y y0 y1 w)
  have HH := Lib.hid H
  obtain ⟨p0, p1⟩ := sq_i64 x0 x1
  obtain ⟨q0, q1⟩ := sq_i64 y0 y1
  generalize x * x = p at *
  generalize y * y = q at *
  have A1 := fun w => add64_law (p % 18446744073709551616) (q % 18446744073709551616) 0 (by omega) (by omega) (by omega) (by omega) w
  have A2 := fun w => add64_law (p / 18446744073709551616) (q / 18446744073709551616) ((p % 18446744073709551616 + q % 18446744073709551616 + 0) / 18446744073709551616) (by omega) (by omega) (by omega) (by omega) w
  rw [hyp_lo] at A1
  rw [hyp_hi, show (p + q) / 18446744073709551616 % 18446744073709551616 = (p + q) / 18446744073709551616 by omega] at A2
  generalize (p % 18446744073709551616 + q % 18446744073709551616 + 0) / 18446744073709551616 = cc at A1 A2
  clear H p0 p1 q0 q1
  go_enter Try.func59, Try.ntmps59
  go_wp2_with (first
    | (go_at_call 79; ((with_reducible refine (SX.out _).mono ?_); rintro e w1 ⟨rfl, rfl⟩))
    | (go_at_call 79; ((with_reducible refine (SY.out _).mono ?_); rintro e w2 ⟨rfl, rfl⟩))
    | (go_at_call 81; ((with_reducible refine (HH.out _).mono ?_); rintro e w3 ⟨rfl, hb3⟩)))
  go_ret
  exact ⟨rfl, hb3⟩

end Go.Proofs.Ytdhegcjclfllmaa.Root

/- The root of a number of 128 bits by Newton's way, from above: what stops it is the root, and no step goes below the root. Plain; for every number. -/
namespace Go.Proofs.Ytdhegcjclfllmaa.Root
open Go

/-- R is the root of N, rounded down. -/
structure IsRoot (N R : Int) : Prop where
  r0 : 0 ≤ R
  le : R * R ≤ N
  lt : N < (R + 1) * (R + 1)

theorem IsRoot.only {N R S : Int} (a : IsRoot N R) (b : IsRoot N S) : R = S := root_unique a.r0 b.r0 a.le a.lt b.le b.lt
/-- What is not less than the root, and whose square is not above the number, is the root. -/
theorem IsRoot.top {N R r : Int} (h : IsRoot N R) (hr : R ≤ r) (hs : r * r ≤ N) : r = R := by
  have h0 := h.r0
  have : r < R + 1 := lt_of_sq (by omega) (Int.lt_of_le_of_lt hs h.lt)
  omega
theorem IsRoot.high {N R r hi lo : Int} (h : IsRoot N R) (e : N = hi * 18446744073709551616 + lo) (l0 : 0 ≤ lo) (hr : R ≤ r) (hr1 : r ≤ 18446744073709551615) (hh : r ≤ hi) : r = R := by
  refine h.top hr ?_
  have h0 := h.r0
  have h1 : r * r ≤ hi * 18446744073709551616 := Int.mul_le_mul hh (by omega) (by omega) (by omega)
  omega
theorem IsRoot.stop {N R r : Int} (h : IsRoot N R) (hr : R ≤ r) (hp : 0 < r) (hq : r ≤ N / r) : r = R := by
  refine h.top hr ?_
  exact (Int.le_ediv_iff_mul_le hp).1 hq
theorem IsRoot.step {N R r : Int} (h : IsRoot N R) (hr : R ≤ r) (hp : 0 < r) (hq : N / r < r) : R ≤ N / r + (r - N / r) / 2 ∧ N / r + (r - N / r) / 2 < r := by
  refine ⟨?_, by omega⟩
  apply Classical.byContradiction
  intro hn
  have h1 : N / r + 1 ≤ 2 * R - r := by omega
  have h2 : N < (N / r + 1) * r := Int.lt_ediv_add_one_mul_self N hp
  have h3 : (N / r + 1) * r ≤ (2 * R - r) * r := Int.mul_le_mul_of_nonneg_right h1 (by omega)
  have h4 : 0 ≤ (r - R) * (r - R) := Int.mul_nonneg (by omega) (by omega)
  have h5 := h.le
  simp only [Int.sub_mul, Int.mul_sub, Int.mul_assoc] at h3 h4
  have h6 : R * r = r * R := Int.mul_comm _ _
  omega

/-- The root of a number below 2^128: bit by bit, 64 bits. -/
structure At64 (N r : Int) (j : Nat) : Prop where
  r0 : 0 ≤ r
  le : r * r ≤ N
  lt : N < (r + pw j) * (r + pw j)
  hi : r + pw j ≤ 18446744073709551616
theorem At64.yes {N r : Int} {j : Nat} (h : At64 N r (j + 1)) (hy : (r + pw j) * (r + pw j) ≤ N) : At64 N (r + pw j) j := by
  have := pw_pos j
  have e := h.lt
  rw [pw_succ] at e
  exact ⟨by have := h.r0; omega, hy, by rw [show r + pw j + pw j = r + 2 * pw j by omega]; exact e, by have := h.hi; rw [pw_succ] at this; omega⟩
theorem At64.no {N r : Int} {j : Nat} (h : At64 N r (j + 1)) (hn : ¬ (r + pw j) * (r + pw j) ≤ N) : At64 N r j := ⟨h.r0, h.le, by omega, by have := pw_pos j; have := h.hi; rw [pw_succ] at this; omega⟩
theorem At64.root {N : Int} : ∀ {r : Int} {j : Nat}, At64 N r j → IsRoot N (rootL N r j)
  | r, 0, h => ⟨h.r0, h.le, h.lt⟩
  | r, j + 1, h => by
    show IsRoot N (rootL N r (j + 1))
    unfold rootL
    split
    · rename_i c; exact At64.root (h.yes c)
    · rename_i c; exact At64.root (h.no c)
theorem At64.start {N : Int} (h0 : 0 ≤ N) (h1 : N < 340282366920938463463374607431768211456) : At64 N 0 64 := ⟨by decide, by omega, by simpa [pw] using h1, by decide⟩
theorem isRoot_of {N : Int} (h0 : 0 ≤ N) (h1 : N < 340282366920938463463374607431768211456) : IsRoot N (rootL N 0 64) := (At64.start h0 h1).root
theorem isRoot_floor {N : Int} (h0 : 0 ≤ N) (h1 : N < 18446744073709551616) : IsRoot N (rootF N) := by
  obtain ⟨a, b, c, _⟩ := rootF_spec h0 h1
  exact ⟨a, b, c⟩
theorem IsRoot.below {N R b : Int} (h : IsRoot N R) (b0 : 0 ≤ b) (hb : N < b * b) : R < b := lt_of_sq b0 (Int.lt_of_le_of_lt h.le hb)
/-- Where Newton's way begins. -/
theorem IsRoot.begin {N R : Int} {k m : Nat} (h : IsRoot N R) (hk : N < 2 ^ k) (hm : k ≤ 2 * m) : R < 2 ^ m := by
  refine h.below (Int.le_of_lt (Int.pow_pos (by decide))) ?_
  rw [← Int.pow_add]
  refine Int.lt_of_lt_of_le hk ?_
  have := Nat.pow_le_pow_right (n := 2) (by decide) (show k ≤ m + m by omega)
  exact_mod_cast this
/-- Four times as great: twice as great, or one more. -/
theorem IsRoot.four {N R S : Int} (h : IsRoot N R) (k : IsRoot (4 * N) S) : S = 2 * R ∨ S = 2 * R + 1 := by
  have h0 := h.r0
  have k0 := k.r0
  have e1 : R * (2 * R) = 2 * (R * R) := by rw [← Int.mul_assoc, Int.mul_comm R 2, Int.mul_assoc]
  have e2 : 2 * R * (2 * R) = 4 * (R * R) := by rw [Int.mul_assoc, e1]; omega
  have e3 : (2 * R + 2) * (2 * R + 2) = 4 * ((R + 1) * (R + 1)) := by
    simp only [Int.add_mul, Int.mul_add, Int.mul_assoc]
    omega
  have hl := h.lt
  have he := h.le
  have kl := k.lt
  have a : S < 2 * R + 2 := k.below (by omega) (by rw [e3]; omega)
  have b : 2 * R < S + 1 := lt_of_sq (by omega) (by rw [e2]; omega)
  omega
theorem IsRoot.rise {N M R S : Int} (h : IsRoot N R) (k : IsRoot M S) (hl : N ≤ M) : R ≤ S := by
  have := h.r0
  have := k.r0
  have : R < S + 1 := lt_of_sq (by omega) (Int.lt_of_le_of_lt h.le (Int.lt_of_le_of_lt hl k.lt))
  omega
end Go.Proofs.Ytdhegcjclfllmaa.Root

/- Package root's Wide, walked: Newton's way ends at the root of hi 2^64 + lo. For all words. -/
namespace Go.Proofs.Ytdhegcjclfllmaa.Root
open Go Go.RowKit
set_option maxRecDepth 100000
set_option linter.unusedVariables false
set_option linter.unusedSimpArgs false

theorem bitLen_pos {x : Nat} (h0 : 1 ≤ x) (h1 : x ≤ 18446744073709551615) : 1 ≤ Lib.bitLen x ∧ Lib.bitLen x ≤ 64 ∧ x < 2 ^ Lib.bitLen x := by
  have hb := Lib.bitLenAux_bounds 64 x (by omega) (by omega)
  obtain ⟨b1, b2, b3⟩ := hb
  obtain ⟨m, hm⟩ : ∃ m, Lib.bitLen x = m := ⟨_, rfl⟩
  have hm' : Lib.bitLenAux 64 x = m := hm
  rw [hm'] at b1 b2 b3
  rw [hm]
  refine ⟨by omega, ?_, b3⟩
  rcases Nat.lt_or_ge 64 m with h | h
  · exfalso
    have h1 : 2 ^ 64 ≤ 2 ^ (m - 1) := Nat.pow_le_pow_right (by omega) (by omega)
    omega
  · exact h

theorem drewN_below (w : World) (n : Nat) : Below w.heap.size w (w.drewN n) := ⟨rfl, rfl, rfl, Nat.le_refl _, fun _ _ => rfl⟩

set_option maxHeartbeats 8000000 in
theorem wide_calls (hi lo R : Int) (h0 : 1 ≤ hi) (h1 : hi ≤ 18446744073709551615) (l0 : 0 ≤ lo) (l1 : lo ≤ 18446744073709551615) (hR : IsRoot (hi * 18446744073709551616 + lo) R) (w : World) :
    Calls Try.prog 81 #[.int .u64 hi, .int .u64 lo] w fun e w' => e = .returned (.int .u64 R) ∧ Below w.heap.size w w' := by
  obtain ⟨x, rfl⟩ := Int.eq_ofNat_of_zero_le (show 0 ≤ hi by omega)
  obtain ⟨b1, b2, b3⟩ := bitLen_pos (x := x) (by omega) (by omega)
  have LN : ∀ w, Calls Try.prog 95 #[.int .u64 x] w fun e w' => e = .returned (.int .i64 (Lib.bitLen x : Nat)) ∧ w = w' := by
    intro w
    have := Try.bits_Len64 (x : Int) w (by omega) h1
    rw [Int.toNat_natCast] at this
    refine this.mono ?_
    rintro e w' ⟨rfl, rfl⟩
    exact ⟨rfl, rfl⟩
  generalize Lib.bitLen x = n at *
  have LH := Lib.hid LN
  have hN : (x : Int) * 18446744073709551616 + lo < 2 ^ (n + 64) := by
    have : ((x : Nat) : Int) + 1 ≤ ((2 ^ n : Nat) : Int) := Int.ofNat_le.2 b3
    rw [Int.pow_add]
    have e : ((2 ^ n : Nat) : Int) = (2 : Int) ^ n := by simp
    rw [e] at this
    have k : ((x : Int) + 1) * 18446744073709551616 ≤ 2 ^ n * 18446744073709551616 := Int.mul_le_mul_of_nonneg_right this (by decide)
    rw [show (2 : Int) ^ 64 = 18446744073709551616 by decide]
    omega
  obtain ⟨k, hk⟩ : ∃ k : Nat, k = (n + 65) / 2 := ⟨_, rfl⟩
  have hB : R < 2 ^ k := hR.begin hN (by omega)
  have hr0 := hR.r0
  have hR1 : 0 < R := by
    rcases Int.lt_or_le 0 R with h | h
    · exact h
    · have := hR.lt
      obtain rfl : R = 0 := by omega
      omega
  have hRH := Lib.hid hR
  have D := Lib.hid (fun r h2 h3 w => Wide.div64_calls (x : Int) lo r (by omega) h2 h3 l0 l1 w)
  clear hR hN LN
  rw [show k = (64 + n + 1) / 2 by omega] at hB
  have hn : (64 + n + 1) / 2 < 64 → (2 : Int) ^ ((64 + n + 1) / 2) ≤ 9223372036854775808 ∧ 0 < (2 : Int) ^ ((64 + n + 1) / 2) := by
    intro h
    have h1 := Nat.pow_le_pow_right (n := 2) (by decide) (show (64 + n + 1) / 2 ≤ 63 by omega)
    have h2 : ((2 ^ ((64 + n + 1) / 2) : Nat) : Int) ≤ ((2 ^ 63 : Nat) : Int) := Int.ofNat_le.2 h1
    exact ⟨by simpa using h2, Int.pow_pos (by decide)⟩
  have hw : (64 + n + 1) / 2 < 64 → IntKind.u64.wrap ((2 : Int) ^ ((64 + n + 1) / 2)) = (2 : Int) ^ ((64 + n + 1) / 2) := by
    intro h
    obtain ⟨h1, h2⟩ := hn h
    rw [Num.wrap_u64, Int.emod_eq_of_lt (by omega) (by omega)]
  have hm : ¬ (64 + n + 1) / 2 < 64 → R ≤ 18446744073709551615 := by
    intro h
    have := hRH.out.below (b := 18446744073709551616) (by decide) (by omega)
    omega
  clear hk
  obtain ⟨p, hp⟩ : ∃ p, p = (2 : Int) ^ ((64 + n + 1) / 2) := ⟨_, rfl⟩
  rw [← hp] at hn hw hB
  have hwp : (64 + n + 1) / 2 < 64 → IntKind.u64.wrap ((2 : Int) ^ ((64 + n + 1) / 2)) = p := by rw [← hp]; exact hw
  clear hw
  go_enter Try.func81, Try.ntmps81
  go_wp2_with (go_at_call 95; ((with_reducible refine (LH.out _).mono ?_); rintro e w1 ⟨rfl, rfl⟩))
  all_goals
    clear LH b3
    rename_i hcc
    replace hcc := Lib.hid hcc
    go_loopw [6] (fun r wr => ∃ r0 : Int, r = .int .u64 r0 ∧ R ≤ r0 ∧ r0 ≤ 18446744073709551615 ∧ 0 < r0 ∧ Below w.heap.size w wr) (fun r _ => (intOf r).toNat)
    case atStart =>
      have hcc := hcc.out
      by_cases hc : (64 + n + 1) / 2 < 64
      · obtain ⟨g1, g2⟩ := hn hc
        have g3 := hwp hc
        first
        | (exfalso; omega)
        | exact ⟨p, by first | rw [hp] | rw [g3], by omega, by omega, g2, Below.refl _ _⟩
      · have g1 := hm hc
        first
        | (exfalso; omega)
        | exact ⟨18446744073709551615, rfl, g1, by omega, by omega, Below.refl _ _⟩
    case round =>
      obtain ⟨r, rfl, g1, g2, g3, hB1⟩ := hrel
      by_cases c1 : r ≤ x
      · have hX : r = R := hRH.out.high (hi := x) (lo := lo) rfl l0 g1 g2 c1
        subst hX
        clear hn hwp hm hB
        go_wp2
        go_ret
        exact ⟨rfl, hB1⟩
      · have c2 : (x : Int) < r := by omega
        have hq0 : 0 ≤ (x * 18446744073709551616 + lo) / r := Int.ediv_nonneg (by omega) (by omega)
        have hq1 : (x * 18446744073709551616 + lo) / r ≤ 18446744073709551615 := by
          have : (x * 18446744073709551616 + lo) / r < 18446744073709551616 := Int.ediv_lt_of_lt_mul g3 (by
            have : (x + 1) * 18446744073709551616 ≤ r * 18446744073709551616 := Int.mul_le_mul_of_nonneg_right (by omega) (by decide)
            rw [Int.mul_comm]; omega)
          omega
        have hs := Lib.hid (hRH.out.stop g1 g3)
        have ht := Lib.hid (hRH.out.step g1 g3)
        have D2 := Lib.hid (D.out r c2 g2)
        unfold Wide.Div64Is at D2
        generalize ((x : Int) * 18446744073709551616 + lo) % r = rest at *
        generalize ((x : Int) * 18446744073709551616 + lo) / r = q at *
        obtain ⟨wo, rfl⟩ : ∃ wo : World, wo = wr := ⟨_, rfl⟩
        by_cases c3 : r ≤ q
        · obtain rfl : r = R := hs.out c3
          clear hn hwp hm hB D hRH hs ht
          go_wp2_with (go_at_call 73; ((with_reducible refine (D2.out _).mono ?_); rintro e w2 ⟨rfl, m, rfl⟩))
          go_ret
          exact ⟨rfl, hB1.trans ((drewN_below _ _).mono hB1.size)⟩
        · obtain ⟨g4, g5⟩ := ht.out (by omega)
          clear hn hwp hm hB D hRH hs ht
          go_wp2_with (go_at_call 73; ((with_reducible refine (D2.out _).mono ?_); rintro e w2 ⟨rfl, m, rfl⟩))
          go_round
          case rel => exact ⟨q + (r - q) / 2, rfl, g4, by omega, by omega, hB1.trans ((drewN_below _ _).mono hB1.size)⟩
          case measure => simp [intOf]; omega
end Go.Proofs.Ytdhegcjclfllmaa.Root

/- The root of any number of 128 bits (package root's Wide), walked. -/
namespace Go.Proofs.Ytdhegcjclfllmaa.Root
open Go Go.RowKit
set_option maxRecDepth 100000
set_option linter.unusedVariables false
set_option linter.unusedSimpArgs false

theorem wide_any (V hi lo R : Int) (e : V = hi * 18446744073709551616 + lo) (h0 : 0 ≤ hi) (h1 : hi ≤ 18446744073709551615) (l0 : 0 ≤ lo) (l1 : lo ≤ 18446744073709551615) (hR : IsRoot V R) (w : World) :
    Calls Try.prog 81 #[.int .u64 hi, .int .u64 lo] w fun e w' => e = .returned (.int .u64 R) ∧ Below w.heap.size w w' := by
  subst e
  by_cases h : 1 ≤ hi
  · exact wide_calls hi lo R h h1 l0 l1 hR w
  · obtain rfl : hi = 0 := by omega
    have : R = rootF lo := hR.only (by rw [show (0 : Int) * 18446744073709551616 + lo = lo by omega]; exact isRoot_floor l0 (by omega))
    subst this
    exact wide0_calls lo l0 (by omega) w

end Go.Proofs.Ytdhegcjclfllmaa.Root
