/- Package ref02, walked: Root, bit by bit. For all numbers below 2^128. -/
import Derived.Test.YtdhhkabihmdbnaaRef3
namespace Go.Proofs.Ytdhhkabihmdbnaa.Ref
open Go Go.RowKit Open
set_option maxRecDepth 100000
set_option linter.unusedVariables false
set_option linter.unusedSimpArgs false

/-- The bit of a round. -/
def bt64 (j : Nat) : Int := if j = 0 then 0 else Root.pw (j - 1)
theorem bt64_succ (j : Nat) : bt64 (j + 1) = Root.pw j := rfl
theorem bt64_half (j : Nat) : Root.pw j / 2 = bt64 j := by
  unfold bt64
  cases j with
  | zero => decide
  | succ j => rw [Root.pw_succ]; simp

theorem above_num {s t : Bool} {A B : Option Addr} {ps qs : List Int} {ca cb : Nat} {a b x : Int} {w : World} (hA : IntRow w .i64 A ps) (hB : IntRow w .i64 B qs) (ha : Says ps a) (hb : Says qs b) (la : ps.length ≤ 60) (lb : qs.length ≤ 60) (e : sg s a = x) :
    Calls Try.prog 39 #[.agg #[.bool s, .slice A ps.length ca], .agg #[.bool t, .slice B qs.length cb]] w fun e w' => e = .returned (.bool (decide (b < x))) ∧ Below w.heap.size w w' := by
  subst e
  exact above_calls s t A B ps qs ca cb a b w hA hB ha hb la lb

set_option maxHeartbeats 8000000 in
theorem root2_calls (s : Bool) (A : Option Addr) (ps : List Int) (ca : Nat) (V : Int) (hs : sg s V = V) (V1 : V < 340282366920938463463374607431768211456) (w : World) (hA : IntRow w .i64 A ps) (ha : Says ps V) :
    Calls Try.prog 26 #[.agg #[.bool s, .slice A ps.length ca]] w fun e w' => e = .returned (.int .u64 (Root.rootL V 0 64)) ∧ Below w.heap.size w w' := by
  have V0 := ha.nonneg
  have p4 := pw4_val
  have p8 := pw8_val
  have la := ha.len (m := 8) (by omega)
  have HA0 := Lib.hid (Root.At64.start V0 V1)
  have HR0 : Hid (Root.rootL V 0 64 = Root.rootL V 0 64) := Lib.hid rfl
  have e63 : (9223372036854775808 : Int) = bt64 64 := by decide
  generalize hR : Root.rootL V 0 64 = R at *
  go_enter Try.func26, Try.ntmps26
  go_wp2_with fail
  go_loopw [3, 4] (fun r b wr => ∃ (j : Nat) (r0 : Int), r = .int .u64 r0 ∧ b = .int .u64 (bt64 j) ∧ Root.At64 V r0 j ∧ j ≤ 64 ∧ Root.rootL V r0 j = R ∧ Below (w.alloc (.cells #[.bool s, .slice A ps.length ca] 60)).heap.size (w.alloc (.cells #[.bool s, .slice A ps.length ca] 60)) wr) (fun _ b _ => (intOf b).toNat)
  case atStart => exact ⟨64, 0, rfl, congrArg (Value.int .u64) e63, HA0.out, by omega, hR, Below.refl _ _⟩
  case round =>
    obtain ⟨j, r0, rfl, rfl, hA0, hj, hr, hB⟩ := hrel
    cases j with
    | zero =>
      obtain rfl : r0 = R := hr
      rw [show bt64 0 = 0 from rfl]
      clear HA0 HR0 hA0
      go_wp2
      go_ret
      exact ⟨rfl, below_more (below_a1 _ _) hB⟩
    | succ j =>
      rw [bt64_succ]
      have hbit := Root.pw_pos j
      have hh := hA0.hi
      have hr0 := hA0.r0
      rw [Root.pw_succ] at hh
      have hhalf := bt64_half j
      have hY := Lib.hid hA0.yes
      have hN := Lib.hid hA0.no
      have hRy : Hid ((r0 + Root.pw j) * (r0 + Root.pw j) ≤ V → Root.rootL V (r0 + Root.pw j) j = R) := Lib.hid fun h => by
        have e := hr
        unfold Root.rootL at e
        rw [if_pos h] at e
        exact e
      have hRn : Hid (¬ (r0 + Root.pw j) * (r0 + Root.pw j) ≤ V → Root.rootL V r0 j = R) := Lib.hid fun h => by
        have e := hr
        unfold Root.rootL at e
        rw [if_neg h] at e
        exact e
      have hsz := hB.size
      rw [World.size_alloc] at hsz
      obtain ⟨hc, hf⟩ := bcell hB
      have k0 := (hc w.heap.size 0 (by simp)).trans (show _ = some (Value.bool s) by simp [go_sem])
      have k1 := (hc w.heap.size 1 (by simp)).trans (show _ = some (Value.slice A ps.length ca) by simp [go_sem])
      have hlt : w.heap.size < wr.heap.size := by omega
      have hAr : IntRow wr .i64 A ps := hA.below (below_more (below_a1 _ _) hB)
      clear HA0 HR0 hA0 hr hc hf
      generalize Root.pw j = bit at *
      have OF := Lib.hid (of2_calls (r0 + bit) (by omega) (by omega))
      have hsq0 : 0 ≤ (r0 + bit) * (r0 + bit) := Int.mul_nonneg (by omega) (by omega)
      have hsq1 : (r0 + bit) * (r0 + bit) ≤ 18446744073709551615 * 18446744073709551615 := Root.sq_le (by omega) (by omega)
      obtain ⟨wo, rfl⟩ : ∃ wo : World, wo = wr := ⟨_, rfl⟩
      go_wp2_with (go_at_call 38; ((with_reducible refine (OF.out _).mono ?_); rintro e w1 h; obtain ⟨r1, C1, d1, c1, rfl, o1, e1⟩ := h.pos (by omega); clear OF; have g1 := sg_len (M := 18446744073709551615) (m := 4) o1 e1 (by omega) (by omega); have q0 := (o1.bel.cell (p := ⟨w.heap.size, 0, none⟩) hlt).trans k0; have q1 := (o1.bel.cell (p := ⟨w.heap.size, 1, none⟩) hlt).trans k1; have hl1 := Nat.lt_of_lt_of_le hlt o1.bel.size; have z1 := hAr.below o1.bel))
      have ZX : ∀ o, IntRow (w1.alloc o) .i64 C1 d1 := fun o => o1.row.below (below_a1 _ _)
      have HB1 : Below (w.alloc (.cells #[.bool s, .slice A ps.length ca] 60)).heap.size (w.alloc (.cells #[.bool s, .slice A ps.length ca] 60)) w1 := below_more hB o1.bel
      clear k0 k1 hAr hB
      go_region_with (first
        | (go_at_call 40; (go_loud (with_reducible refine (mul_num (s := r1) (t := r1) (by first | exact ZX _ | exact (ZX _).drew) (by first | exact ZX _ | exact (ZX _).drew) o1.says o1.says (by omega) (by omega) e1 e1).mono ?_); rintro e w2 h; obtain ⟨r2, C2, d2, c2, rfl, o2, e2⟩ := h.pos (by omega); have hb2 : Below w1.heap.size w1 w2 := (by first | exact below_more (below_a1 _ _) o2.bel | exact below_more (below_a1 _ _) (below_more (Below.refl _ _).drew o2.bel)); have g2 := sg_len (M := 18446744073709551615 * 18446744073709551615) (m := 8) o2 e2 (by omega) (by omega); have v0 := (hb2.cell (p := ⟨w.heap.size, 0, none⟩) hl1).trans q0; have v1 := (hb2.cell (p := ⟨w.heap.size, 1, none⟩) hl1).trans q1; have z2 := z1.below hb2))
        | (go_at_call 39; (go_loud (with_reducible refine (above_num (s := r2) (t := s) (by first | exact o2.row | exact o2.row.drew) (by first | exact z2 | exact z2.drew) o2.says ha (by omega) (by omega) e2).mono ?_); rintro e w3 ⟨rfl, hb3⟩))
        | fail)
      all_goals
        have hBe : Below (w.alloc (.cells #[.bool s, .slice A ps.length ca] 60)).heap.size (w.alloc (.cells #[.bool s, .slice A ps.length ca] 60)) w3 := by first | exact below_more HB1 (below_more hb2 hb3) | exact below_more HB1 (below_more hb2 (below_more (Below.refl _ _).drew hb3))
        by_cases hq : (r0 + bit) * (r0 + bit) ≤ V
        · have hq3 : (!decide (V < (r0 + bit) * (r0 + bit))) = true := by simp; omega
          have hat := Lib.hid (hY.out hq)
          have hrr := Lib.hid (hRy.out hq)
          clear hY hN hRy hRn hb2 hb3 v0 v1 z2 z1 q0 q1 o1 o2
          simp only [hq3]
          go_wp2
          go_roundw
          case rel => exact ⟨j, r0 + bit, rfl, by first | rw [hhalf] | (simp [← hhalf]), hat.out, by omega, hrr.out, hBe⟩
          case measure => simp [intOf]; omega
        · have hq2 : V < (r0 + bit) * (r0 + bit) := by omega
          have hq3 : (!decide (V < (r0 + bit) * (r0 + bit))) = false := by simp; omega
          have hat := Lib.hid (hN.out hq2)
          have hrr := Lib.hid (hRn.out hq2)
          clear hY hN hRy hRn hb2 hb3 v0 v1 z2 z1 q0 q1 o1 o2
          simp only [hq3]
          go_wp2
          go_roundw
          case rel => exact ⟨j, r0, rfl, by first | rw [hhalf] | (simp [← hhalf]), hat.out, by omega, hrr.out, hBe⟩
          case measure => simp [intOf]; omega
end Go.Proofs.Ytdhhkabihmdbnaa.Ref
