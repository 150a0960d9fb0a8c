/- Package ref02, walked: Of, Above. For all arguments. -/
import Derived.Test.YtdhhkabihmdbnaaRefP
namespace Go.Proofs.Ytdhhkabihmdbnaa.Ref
open Go Go.RowKit Open
set_option maxRecDepth 100000
set_option linter.unusedVariables false
set_option linter.unusedSimpArgs false

/-- A number's digits, so far. -/
structure Of2 (n : Int) (out : List Int) (k : Nat) (M : Int) : Prop where
  len : out.length = k
  dig : Dig out
  m0 : 0 ≤ M
  eq : val out + pw k * M = n
  top : M = 0 → Top out
theorem Of2.start {n : Int} (h : 0 ≤ n) : Of2 n [] 0 n := ⟨rfl, Dig.nil, h, by simp [val, pw_zero], fun _ k hk => by simp at hk⟩
theorem Of2.step {n : Int} {out : List Int} {k : Nat} {M : Int} (h : Of2 n out k M) (hM : 0 < M) : Of2 n (out ++ [M % 65536]) (k + 1) (M / 65536) := by
  refine ⟨by simp [h.len], h.dig.snoc (by omega) (by omega), by omega, ?_, fun h0 j hj => ?_⟩
  · rw [val_snoc, h.len, pw_succ]
    have e := h.eq
    have e2 : pw k * (M % 65536) + pw k * 65536 * (M / 65536) = pw k * M := by
      rw [Int.mul_assoc, ← Int.mul_add]
      congr 1
      omega
    omega
  · have hl := h.len
    obtain rfl : j = out.length := by simp at hj; omega
    simp
    omega
theorem Of2.few {n : Int} {out : List Int} {k : Nat} {M : Int} (h : Of2 n out k M) (hM : 0 < M) (hn : n < 18446744073709551616) : k < 4 := by
  have e := h.eq
  have h1 := val_nonneg h.dig
  have h2 : pw k * 1 ≤ pw k * M := Int.mul_le_mul_of_nonneg_left (by omega) (by have := pw_pos k; omega)
  exact lt_of_pw (by rw [show pw 4 = 18446744073709551616 by decide]; omega)
theorem Of2.done {n : Int} {out : List Int} {k : Nat} (h : Of2 n out k 0) : Says out n := ⟨h.dig, h.top rfl, by have := h.eq; simpa using this⟩

set_option maxHeartbeats 4000000 in
theorem of2_calls (n : Int) (n0 : 0 ≤ n) (n1 : n < 18446744073709551616) (w : World) : Calls Try.prog 38 #[.int .u64 n] w (Num0 w n) := by
  have hst := Of2.start n0
  go_enter Try.func38, Try.ntmps38
  go_wp2
  go_loopw [0, 3] (fun z v wr => ∃ k out M, z = .int .u64 M ∧ Of2 n out k M ∧ k ≤ 4 ∧ M < 18446744073709551616 ∧ Own (w.alloc (.cells #[.bool false, .slice none 0 0] 60)) wr v out) (fun z _ _ => (intOf z).toNat)
  case atStart => exact ⟨0, [], n, rfl, hst, by omega, n1, Own.nil (Below.refl _ _)⟩
  case round =>
    obtain ⟨k, out, M, rfl, hI, hk, hM, hO⟩ := hrel
    have m0 := hI.m0
    have hlen := hI.len
    by_cases hp : 0 < M
    · have hk4 := hI.few hp n1
      have HS := Lib.hid (hI.step hp)
      have hx : 0 ≤ M % 65536 ∧ M % 65536 ≤ 65535 := by omega
      have hy : M / 65536 < M := by omega
      clear hI hst
      go_wp2_with (at_builtin; refine app1 rfl _ _ rfl _ _ rfl (hO.alloc _) _ _ rfl (cell_new _ _ _) (by omega) ?_; intro v' w2 hown' hgrow')
      go_roundw
      case rel => exact ⟨k + 1, out ++ [M % 65536], M / 65536, rfl, HS.out, by omega, by omega, hown'⟩
      case measure => simp [intOf]; omega
    · obtain rfl : M = 0 := by omega
      have hS := Lib.hid hI.done
      obtain ⟨C1, cap1, rfl, l1, l2, hR, hnew⟩ := hO.read hI.dig
      have hbel := hO.bel
      obtain ⟨hc, hf⟩ := bcell hbel
      have k0 := (hc w.heap.size 0 (by simp)).trans (show _ = some (Value.bool false) by simp [go_sem])
      have k1 := (hc w.heap.size 1 (by simp)).trans (show _ = some (Value.slice none 0 0) by simp [go_sem])
      have k2 := (hf w.heap.size 0 (by simp)).trans (show _ = false by simp [go_sem])
      have k3 := (hf w.heap.size 1 (by simp)).trans (show _ = false by simp [go_sem])
      clear hI hst hlen hc hf
      go_wp2
      refine bodyPost_ret (v := .agg #[.bool false, .slice C1 out.length cap1]) (by simp [results, Try.results38, go_sem, k0, k1]) rfl ⟨false, C1, out, cap1, n, rfl, ?_, sg_false _⟩
      exact Out.store (X := (w.alloc (.cells #[.bool false, .slice none 0 0] 60))) ⟨hR, hS.out, hbel, hnew⟩ (below_a1 _ _) (Nat.le_refl _) (by simp) _ _

set_option maxHeartbeats 4000000 in
theorem above_calls (s t : Bool) (A B : Option Addr) (ps qs : List Int) (ca cb : Nat) (a b : Int) (w : World) (hA : IntRow w .i64 A ps) (hB : IntRow w .i64 B qs) (ha : Says ps a) (hb : Says qs b) (la : ps.length ≤ 60) (lb : qs.length ≤ 60) :
    Calls Try.prog 39 #[.agg #[.bool s, .slice A ps.length ca], .agg #[.bool t, .slice B qs.length cb]] w fun e w' => e = .returned (.bool (decide (b < sg s a))) ∧ Below w.heap.size w w' := by
  have HD := Lib.hid (fun (w : World) hA hB => add_num (s := s) (t := true) (A := A) (B := B) (ps := ps) (qs := qs) (ca := ca) (cb := cb) (w := w) hA hB ha hb (by omega) (by omega) rfl rfl)
  have a0 := ha.nonneg
  have b0 := hb.nonneg
  go_enter Try.func39, Try.ntmps39
  go_wp2_with (go_at_call 41; ((with_reducible refine (HD.out _ ((hA.below (below_a1 _ _)).below (below_a1 _ _)) ((hB.below (below_a1 _ _)).below (below_a1 _ _))).mono ?_); rintro e w1 ⟨r, C, cs, cc, n, rfl, o1, e1⟩))
  all_goals
    have n0 := o1.says.nonneg
    have hB : ∀ o, Below w.heap.size w (w1.alloc o) := fun o => below_more (below_a1 w _) (below_more (below_a1 _ _) (below_more o1.bel (below_a1 _ o)))
    go_ret
    refine ⟨?_, hB _⟩
  · have hr : r = true := by assumption
    rw [hr, sg_true, sg_true] at e1
    simp
    omega
  · have hr : r = false := Bool.eq_false_iff.2 (by assumption)
    rw [hr, sg_false, sg_true] at e1
    by_cases h : 0 < n
    · have := o1.says.pos h
      simp
      omega
    · obtain rfl : n = 0 := by omega
      have := o1.says.zero
      simp
      omega
end Go.Proofs.Ytdhhkabihmdbnaa.Ref
