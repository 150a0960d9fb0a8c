/- Package ref01, walked: Power, up to 64. For all arguments. -/
import Derived.Test.YtdhhkabihmdbnaaRefM
namespace Go.Proofs.Ytdhhkabihmdbnaa.Ref
open Go Go.RowKit Open
set_option maxRecDepth 100000
set_option linter.unusedVariables false
set_option linter.unusedSimpArgs false

def Num0 (w : World) (z : Int) (e : Ending) (w' : World) : Prop :=
  ∃ r C cs cc n, e = .returned (.agg #[.bool r, .slice C cs.length cc]) ∧ Out w w' C cs n ∧ sg r n = z


theorem two_pow_pos (t : Nat) : (1 : Int) ≤ 2 ^ t := by
  induction t with
  | zero => decide
  | succ t ih => rw [Int.pow_succ]; omega
theorem Says.power {q : Nat} {x : Int} (x0 : 1 ≤ x) (x1 : x ≤ 65535) : Says (List.replicate q 0 ++ [x]) (pw q * x) := by
  refine ⟨fun z hz => ?_, fun k hk => ?_, ?_⟩
  · rcases List.mem_append.1 hz with hz | hz
    · simp at hz; omega
    · simp at hz; omega
  · obtain rfl : k = q := by simp at hk; omega
    simp; omega
  · rw [val_snoc, val_zeros]; simp
theorem two_lt {m : Nat} (h : m ≤ 15) : 1 ≤ (2 : Int) ^ m ∧ (2 : Int) ^ m ≤ 32768 := by
  refine ⟨two_pow_pos m, ?_⟩
  have e : (2 : Int) ^ 15 = 2 ^ m * 2 ^ (15 - m) := by rw [← Int.pow_add]; congr 1; omega
  have h1 := two_pow_pos (15 - m)
  have h2 := two_pow_pos m
  have h3 : 2 ^ m * 1 ≤ (2 : Int) ^ m * 2 ^ (15 - m) := Int.mul_le_mul_of_nonneg_left h1 (by omega)
  have e15 : (2 : Int) ^ 15 = 32768 := by decide
  omega

set_option maxHeartbeats 4000000 in
theorem power_calls (n : Nat) (hn : n ≤ 64) (w : World) : Calls Try.prog 42 #[.int .i64 (n : Int)] w (Num0 w (2 ^ n)) := by
  obtain ⟨q, hq⟩ : ∃ q, n / 16 = q := ⟨_, rfl⟩
  obtain ⟨m, hm⟩ : ∃ m, n % 16 = m := ⟨_, rfl⟩
  have eq1 : ((n : Int)).tdiv 16 = (q : Nat) := by rw [Int.tdiv_eq_ediv_of_nonneg (by omega)]; omega
  have em1 : ((n : Int)).tmod 16 = (m : Nat) := by rw [Int.tmod_eq_emod_of_nonneg (by omega)]; omega
  have hend : pw q * 2 ^ m = (2 : Int) ^ n := by
    unfold pw
    rw [show (65536 : Int) = 2 ^ 16 by decide, ← Int.pow_mul, ← Int.pow_add]
    congr 1; omega
  have hm15 : m ≤ 15 := by omega
  have HE := Lib.hid hend
  clear hend
  go_enter Try.func42, Try.ntmps42
  go_wp2_with (at_make; refine make0 (w0 := w.alloc (.cells #[.bool false, .slice none 0 0] 60)) rfl _ _ rfl q (by simp [go_sem, eq1]) (by simp [go_sem, eq1]) (by omega) (Below.refl _ _) ?_; intro w1 hown hgrow)
  have hown : Own (w.alloc (.cells #[.bool false, .slice none 0 0] 60)) w1 (.slice (some ⟨w.heap.size + 1, 0, none⟩) q q) (List.replicate q 0) := by simpa using hown
  have hq3 : q ≤ 4 := by omega
  clear eq1 hq
  go_loop [4, 5] (fun x i => ∃ k : Nat, k ≤ m ∧ i = .int .i64 (k : Nat) ∧ x = .int .i64 (2 ^ k)) (fun _ i => m - (intOf i).toNat)
  case atStart => exact ⟨0, Nat.zero_le _, rfl, rfl⟩
  case round =>
    obtain ⟨k, hk, rfl, rfl⟩ := hrel
    obtain ⟨t1, t2⟩ := two_lt (m := k) (by omega)
    have ts : (2 : Int) ^ (k + 1) = 2 ^ k * 2 := Int.pow_succ 2 k
    by_cases hp : k < m
    · have TS := Lib.hid ts
      clear ts
      generalize (2 : Int) ^ k = x at *
      go_wp2
      go_round
      case rel => exact ⟨k + 1, by omega, by go_num, by rw [TS.out]⟩
      case measure => simp [intOf]; omega
    · obtain rfl : k = m := by omega
      have hS := Says.power (q := q) (x := 2 ^ k) t1 (by omega)
      rw [HE.out] at hS
      have HS := Lib.hid hS
      have hlen : (List.replicate q (0 : Int)).length ≤ 1000000 := by simp; omega
      clear ts hS
      generalize (2 : Int) ^ k = x at *
      go_wp2_with (at_builtin; go_loud (refine app1 rfl _ _ rfl _ _ rfl (hown.alloc _) _ _ rfl (cell_new _ _ _) hlen ?_); intro v' w2 hown' hgrow'; obtain ⟨C1, cap1, rfl, l1, l2, hR, hnew⟩ := hown'.read HS.out.dig; have hbel := hown'.bel; obtain ⟨hc, hf⟩ := bcell hbel; have k0 := (hc w.heap.size 0 (by simp)).trans (show _ = some (Value.bool false) by simp [go_sem]); have k1 := (hc w.heap.size 1 (by simp)).trans (show _ = some (Value.slice none 0 0) by simp [go_sem]); have k2 := (hf w.heap.size 0 (by simp)).trans (show _ = false by simp [go_sem]); have k3 := (hf w.heap.size 1 (by simp)).trans (show _ = false by simp [go_sem]); clear hc hf hown' hgrow' hown hgrow)
      refine bodyPost_ret (v := .agg #[.bool false, .slice C1 (List.replicate q 0 ++ [x]).length cap1]) (by simp [results, Try.results42, go_sem, k0, k1]) rfl ⟨false, C1, List.replicate q 0 ++ [x], cap1, 2 ^ n, rfl, ?_, sg_false _⟩
      exact Out.store (X := (w.alloc (.cells #[.bool false, .slice none 0 0] 60))) ⟨hR, HS.out, hbel, hnew⟩ (below_a1 _ _) (Nat.le_refl _) (by simp) _ _

theorem pw4_val : pw 4 = 18446744073709551616 := by decide
theorem pw8_val : pw 8 = 340282366920938463463374607431768211456 := by decide
theorem siz_bound {a : Int} (a0 : -9223372036854775808 ≤ a) (a1 : a ≤ 9223372036854775807) : 0 ≤ siz a ∧ siz a ≤ 9223372036854775808 := by unfold siz; split <;> omega
theorem sg_mul (s t : Bool) (a b : Int) : sg (s != t) (a * b) = sg s a * sg t b := by
  cases s <;> cases t <;> simp [sg, Int.neg_mul, Int.mul_neg]
theorem Out.len {w w' : World} {C : Option Addr} {cs : List Int} {n : Int} (h : Out w w' C cs n) {m : Nat} (hn : n < pw m) : cs.length ≤ m := h.says.len hn
theorem sg_len {w w' : World} {r : Bool} {C : Option Addr} {cs : List Int} {n z M : Int} (h : Out w w' C cs n) (e : sg r n = z) (hz : -M ≤ z ∧ z ≤ M) {m : Nat} (hM : M < pw m) : cs.length ≤ m :=
  h.len (by have := h.says.nonneg; cases r <;> simp [sg] at e <;> omega)
theorem of_num (a : Int) (a0 : -9223372036854775808 ≤ a) (a1 : a ≤ 9223372036854775807) (w : World) : Calls Try.prog 45 #[.int .i64 a] w (Num0 w a) :=
  (of_calls a a0 a1 w).mono fun e w' ⟨C, cs, cc, h1, h2⟩ => ⟨_, C, cs, cc, _, h1, h2, sg_siz a⟩
theorem mul_num {s t : Bool} {A B : Option Addr} {ps qs : List Int} {ca cb : Nat} {a b x y : Int} {w : World} (hA : IntRow w .i64 A ps) (hB : IntRow w .i64 B qs) (ha : Says ps a) (hb : Says qs b) (la : ps.length ≤ 20) (lb : qs.length ≤ 20) (ex : sg s a = x) (ey : sg t b = y) :
    Calls Try.prog 40 #[.agg #[.bool s, .slice A ps.length ca], .agg #[.bool t, .slice B qs.length cb]] w (Num0 w (x * y)) :=
  (mul_calls s t A B ps qs ca cb a b w hA hB ha hb la lb).mono fun e w' ⟨C, cs, cc, h1, h2⟩ => ⟨_, C, cs, cc, _, h1, h2, by rw [sg_mul, ex, ey]⟩
theorem add_num {s t : Bool} {A B : Option Addr} {ps qs : List Int} {ca cb : Nat} {a b x y : Int} {w : World} (hA : IntRow w .i64 A ps) (hB : IntRow w .i64 B qs) (ha : Says ps a) (hb : Says qs b) (la : ps.length ≤ 64) (lb : qs.length ≤ 64) (ex : sg s a = x) (ey : sg t b = y) :
    Calls Try.prog 41 #[.agg #[.bool s, .slice A ps.length ca], .agg #[.bool t, .slice B qs.length cb]] w (Num0 w (x + y)) :=
  (add_calls s t A B ps qs ca cb a b w hA hB ha hb la lb).mono fun e w' ⟨r, C, cs, cc, n, h1, h2, h3⟩ => ⟨r, C, cs, cc, n, h1, h2, by rw [h3, ex, ey]⟩
end Go.Proofs.Ytdhhkabihmdbnaa.Ref
