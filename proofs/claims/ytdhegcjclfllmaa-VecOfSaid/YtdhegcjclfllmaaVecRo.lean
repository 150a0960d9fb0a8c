/- The document's direction of a point (ref09's Of), walked. For all points. -/
import Derived.Test.YtdhegcjclfllmaaVecN
import Derived.Test.YtdhegcjclfllmaaRt2
import Derived.Test.YtdhegcjclfllmaaEx2
import Derived.LoopTactic
import Derived.Test.YtdhegcjclfllmaaPEx12
namespace Go.Proofs.Ytdhegcjclfllmaa.VecN
open Go Go.RowKit Go.Proofs.Ytdhegcjclfllmaa.PE Go.Proofs.YtdhegcjclfllmaaW.PrintWords Go.Proofs.YtdhegcjclfllmaaW.PrintLast
set_option maxRecDepth 100000
set_option linter.unusedVariables false
set_option linter.unusedSimpArgs false
theorem w64 {x : Int} (h0 : -9223372036854775808 ≤ x) (h1 : x ≤ 9223372036854775807) : wrap64 x = x := by unfold wrap64; omega
theorem wu {x : Int} (h0 : 0 ≤ x) (h1 : x ≤ 18446744073709551615) : IntKind.u64.wrap x = x := by rw [Num.wrap_u64]; omega
theorem near_f {a b c : Int} (ha : -9223372036854775808 ≤ a ∧ a ≤ 9223372036854775807) (hb : -9223372036854775808 ≤ b ∧ b ≤ 9223372036854775807) (hc : -9223372036854775808 ≤ c ∧ c ≤ 9223372036854775807) : pointillistref09_near.f a b c = some (Wide.mulDivV a b c) := by
  unfold pointillistref09_near.f pointillistref01_MulDiv.f
  rw [if_pos ⟨ha, hb, hc⟩, MdEq.mdV]; rfl
theorem len_in {X Y : Int} (hX : -4611686018427387904 ≤ X ∧ X ≤ 4611686018427387904) (hY : -4611686018427387904 ≤ Y ∧ Y ≤ 4611686018427387904) : 0 ≤ X * X + Y * Y ∧ X * X + Y * Y ≤ 42535295865117307932921825928971026432 ∧ Root.IsRoot (X * X + Y * Y) (len X Y) ∧ 0 ≤ len X Y ∧ len X Y ≤ 9223372036854775807 := by
  have p : 0 ≤ X * X ∧ X * X ≤ 21267647932558653966460912964485513216 := by
    have h1 : (X * X).natAbs ≤ 4611686018427387904 * 4611686018427387904 := by rw [Int.natAbs_mul]; exact Nat.mul_le_mul (by omega) (by omega)
    have h2 : 0 ≤ X * X := by
      rcases Int.le_total 0 X with h | h
      · exact Int.mul_nonneg h h
      · exact Int.mul_nonneg_of_nonpos_of_nonpos h h
    omega
  have q : 0 ≤ Y * Y ∧ Y * Y ≤ 21267647932558653966460912964485513216 := by
    have h1 : (Y * Y).natAbs ≤ 4611686018427387904 * 4611686018427387904 := by rw [Int.natAbs_mul]; exact Nat.mul_le_mul (by omega) (by omega)
    have h2 : 0 ≤ Y * Y := by
      rcases Int.le_total 0 Y with h | h
      · exact Int.mul_nonneg h h
      · exact Int.mul_nonneg_of_nonpos_of_nonpos h h
    omega
  have hr : Root.IsRoot (X * X + Y * Y) (len X Y) := Root.isRoot_of (by omega) (by omega)
  refine ⟨by omega, by omega, hr, hr.r0, ?_⟩
  have := hr.below (b := 9223372036854775808) (by decide) (by omega)
  omega
set_option maxHeartbeats 8000000 in
theorem refof_calls (x y : Int) (hx : -9223372036854775808 ≤ x ∧ x ≤ 9223372036854775807) (hy : -9223372036854775808 ≤ y ∧ y ≤ 9223372036854775807) (w : World) :
    Calls Try.prog 29 #[.int .i64 x, .int .i64 y] w fun e w' => e = .returned (.tuple #[.agg #[.int .i64 (ofX x y), .int .i64 (ofY x y)], .bool (ofB x y)]) ∧ Below w.heap.size w w' := by
  have hB := Below.refl w.heap.size w
  by_cases ho : out x y
  · have e1 : ofX x y = 0 := if_pos ho
    have e2 : ofY x y = 0 := if_pos ho
    have e3 : ofB x y = false := by unfold ofB; rw [decide_eq_true ho]; rfl
    rw [e1, e2, e3]
    have HO := Lib.hid ho
    unfold out at ho
    clear e1 e2 e3
    have hz : (x = 0 ∧ y = 0) ∨ x > 4611686018427387904 ∨ (x ≤ 4611686018427387904 ∧ x < -4611686018427387904) ∨ (x ≤ 4611686018427387904 ∧ -4611686018427387904 ≤ x ∧ y > 4611686018427387904) ∨ (x ≤ 4611686018427387904 ∧ -4611686018427387904 ≤ x ∧ y ≤ 4611686018427387904 ∧ y < -4611686018427387904) := by omega
    clear HO ho
    rcases hz with ⟨c1, c2⟩ | c1 | ⟨c1, c2⟩ | ⟨c1, c2, c3⟩ | ⟨c1, c2, c3, c4⟩
    · subst c1 c2
      go_enter Try.func29, Try.ntmps29
      go_wp2
      all_goals refine bodyPost_ret (v := .tuple #[.agg #[.int .i64 0, .int .i64 0], .bool false]) (by simp [results, Try.results29, go_sem]) rfl ⟨rfl, by (repeat' (first | (with_reducible exact Below.refl _ _) | (with_reducible refine Below.drew ?_) | (with_reducible refine below_drewN ?_ _) | ((with_reducible refine Below.setCell ?_ ?side_ _); case side_ => (first | (with_reducible exact Nat.le_refl _) | (with_reducible assumption) | omega | (simp; done) | (simp; omega))) | ((with_reducible refine Below.alloc ?_ ?side_ _); case side_ => (first | (with_reducible exact Nat.le_refl _) | (with_reducible assumption) | omega | (simp; done) | (simp; omega)))))⟩
    · go_enter Try.func29, Try.ntmps29
      go_wp2
      all_goals refine bodyPost_ret (v := .tuple #[.agg #[.int .i64 0, .int .i64 0], .bool false]) (by simp [results, Try.results29, go_sem]) rfl ⟨rfl, by (repeat' (first | (with_reducible exact Below.refl _ _) | (with_reducible refine Below.drew ?_) | (with_reducible refine below_drewN ?_ _) | ((with_reducible refine Below.setCell ?_ ?side_ _); case side_ => (first | (with_reducible exact Nat.le_refl _) | (with_reducible assumption) | omega | (simp; done) | (simp; omega))) | ((with_reducible refine Below.alloc ?_ ?side_ _); case side_ => (first | (with_reducible exact Nat.le_refl _) | (with_reducible assumption) | omega | (simp; done) | (simp; omega)))))⟩
    · go_enter Try.func29, Try.ntmps29
      go_wp2
      all_goals refine bodyPost_ret (v := .tuple #[.agg #[.int .i64 0, .int .i64 0], .bool false]) (by simp [results, Try.results29, go_sem]) rfl ⟨rfl, by (repeat' (first | (with_reducible exact Below.refl _ _) | (with_reducible refine Below.drew ?_) | (with_reducible refine below_drewN ?_ _) | ((with_reducible refine Below.setCell ?_ ?side_ _); case side_ => (first | (with_reducible exact Nat.le_refl _) | (with_reducible assumption) | omega | (simp; done) | (simp; omega))) | ((with_reducible refine Below.alloc ?_ ?side_ _); case side_ => (first | (with_reducible exact Nat.le_refl _) | (with_reducible assumption) | omega | (simp; done) | (simp; omega)))))⟩
    · have hy0 : (y == 0) = false := by simp; omega
      rcases hb : (x == 0) with _ | _
      all_goals
        go_enter Try.func29, Try.ntmps29
        go_wp2
        all_goals refine bodyPost_ret (v := .tuple #[.agg #[.int .i64 0, .int .i64 0], .bool false]) (by simp [results, Try.results29, go_sem]) rfl ⟨rfl, by (repeat' (first | (with_reducible exact Below.refl _ _) | (with_reducible refine Below.drew ?_) | (with_reducible refine below_drewN ?_ _) | ((with_reducible refine Below.setCell ?_ ?side_ _); case side_ => (first | (with_reducible exact Nat.le_refl _) | (with_reducible assumption) | omega | (simp; done) | (simp; omega))) | ((with_reducible refine Below.alloc ?_ ?side_ _); case side_ => (first | (with_reducible exact Nat.le_refl _) | (with_reducible assumption) | omega | (simp; done) | (simp; omega)))))⟩
    · have hy0 : (y == 0) = false := by simp; omega
      rcases hb : (x == 0) with _ | _
      all_goals
        go_enter Try.func29, Try.ntmps29
        go_wp2
        all_goals refine bodyPost_ret (v := .tuple #[.agg #[.int .i64 0, .int .i64 0], .bool false]) (by simp [results, Try.results29, go_sem]) rfl ⟨rfl, by (repeat' (first | (with_reducible exact Below.refl _ _) | (with_reducible refine Below.drew ?_) | (with_reducible refine below_drewN ?_ _) | ((with_reducible refine Below.setCell ?_ ?side_ _); case side_ => (first | (with_reducible exact Nat.le_refl _) | (with_reducible assumption) | omega | (simp; done) | (simp; omega))) | ((with_reducible refine Below.alloc ?_ ?side_ _); case side_ => (first | (with_reducible exact Nat.le_refl _) | (with_reducible assumption) | omega | (simp; done) | (simp; omega)))))⟩
  · have WS := Way.start ho
    have hn : ¬ (x = 0 ∧ y = 0) ∧ (-4611686018427387904 ≤ x ∧ x ≤ 4611686018427387904) ∧ -4611686018427387904 ≤ y ∧ y ≤ 4611686018427387904 := by unfold out at ho; omega
    have e1 : ofX x y = Wide.mulDivV (big x y).1 1073741824 (len (big x y).1 (big x y).2) := if_neg ho
    have e2 : ofY x y = Wide.mulDivV (big x y).2 1073741824 (len (big x y).1 (big x y).2) := if_neg ho
    have e3 : ofB x y = true := by unfold ofB; rw [decide_eq_false ho]; rfl
    rw [e1, e2, e3]
    have WD := WS.done
    have L := len_in WD.2.1 WD.2.2
    clear e1 e2 e3 ho
    generalize hX : (big x y).1 = X at *
    generalize hY : (big x y).2 = Y at *
    clear hX hY
    obtain ⟨hn0, ⟨hx0, hx1⟩, hy0, hy1⟩ := hn
    obtain ⟨WD0, WX, WY⟩ := WD
    obtain ⟨L0, L1, L2, L3, L4⟩ := L
    have SQ := Lib.hid (Ref.squares2_calls X Y (by omega) (by omega) (by omega) (by omega))
    have RR := Lib.hid (fun s A ps ca hs w hA ha => Ref.root2_calls s A ps ca (X * X + Y * Y) hs (by omega) w hA ha)
    change Hid (∀ s A ps ca hs w hA ha, Calls Try.prog 60 _ w fun e w' => e = .returned (.int .u64 (len X Y)) ∧ _) at RR
    have NX := Lib.hid (pointillistref09_near.calls X 1073741824 (len X Y) (Wide.mulDivV X 1073741824 (len X Y)) · (near_f (by omega) (by omega) (by omega)))
    have NY := Lib.hid (pointillistref09_near.calls Y 1073741824 (len X Y) (Wide.mulDivV Y 1073741824 (len X Y)) · (near_f (by omega) (by omega) (by omega)))
    generalize len X Y = D at *
    generalize Wide.mulDivV X 1073741824 D = PX at *
    generalize Wide.mulDivV Y 1073741824 D = PY at *
    have WS0 := Lib.hid WS
    clear WS
    have hz : (x == 0) = false ∨ (x == 0) = true ∧ (y == 0) = false := by
      by_cases h : x = 0
      · right; refine ⟨by simp [h], by simp; omega⟩
      · left; simp [h]
    replace hn0 := Lib.hid hn0
    rcases hz with hz | ⟨hz, hz2⟩
    all_goals
      go_enter Try.func29, Try.ntmps29
      go_wp2
      go_loopw [0, 1] (fun r b wr => ∃ (n : Nat) (a c : Int), r = .int .i64 a ∧ b = .int .i64 c ∧ Way n a c X Y ∧ Below (w.alloc (.cells #[.int .i64 0, .int .i64 0] 23)).heap.size (w.alloc (.cells #[.int .i64 0, .int .i64 0] 23)) wr) (fun r b _ => 9223372036854775808 - ((intOf r).natAbs + (intOf b).natAbs))
      case atStart => exact ⟨64, x, y, rfl, rfl, WS0.out, Below.refl _ _⟩
      case round =>
        obtain ⟨n, a, c, rfl, rfl, hW, hB2⟩ := hrel
        have hsz := hB2.size
        rw [World.size_alloc] at hsz
        have hB3 : Below w.heap.size w wr := Ref.below_more (Ref.below_a1 _ _) hB2
        clear WS0 hB
        obtain ⟨ha0, ha1⟩ := hW.a0
        obtain ⟨hc0, hc1⟩ := hW.b0
        by_cases hs : small a c
        · obtain ⟨m, hW2, hgt, _⟩ := hW.step hs
          have hb := hW2.a0
          have hc := hW2.b0
          have e1 : wrap64 (a + a) = 2 * a := by rw [w64 (by omega) (by omega)]; omega
          have e2 : wrap64 (c + c) = 2 * c := by rw [w64 (by omega) (by omega)]; omega
          have HW2 := Lib.hid hW2
          have HG := Lib.hid hgt
          obtain ⟨⟨s1, s2⟩, s3, s4⟩ := hs
          clear hW2 hgt hW hb hc
          go_wp2
          rw [show a + a = 2 * a by omega, show c + c = 2 * c by omega]
          have hW3 := HW2.out
          have hg := HG.out
          have b1 := hW3.a0
          have b2 := hW3.b0
          refine ⟨⟨m, _, _, rfl, rfl, hW3, hB2⟩, ?_⟩
          simp only [intOf]
          omega
        · obtain ⟨rfl, rfl⟩ := hW.stop hs
          clear hW
          have hq : X > 1152921504606846976 ∨ (X ≤ 1152921504606846976 ∧ X < -1152921504606846976) ∨ (X ≤ 1152921504606846976 ∧ -1152921504606846976 ≤ X ∧ Y > 1152921504606846976) ∨ (X ≤ 1152921504606846976 ∧ -1152921504606846976 ≤ X ∧ Y ≤ 1152921504606846976 ∧ Y < -1152921504606846976) := by unfold small at hs; omega
          clear hs WD0
          rcases hq with c1 | ⟨c1, c2⟩ | ⟨c1, c2, c3⟩ | ⟨c1, c2, c3, c4⟩
          all_goals
            go_wp2_with (first
              | (go_at_call 61; ((with_reducible refine (SQ.out _).mono ?_); rintro e w3 h; obtain ⟨r3, C3, d3, d4, rfl, o3, e3⟩ := h.pos L0; clear SQ; have hB4 := hB2.trans (o3.bel.mono hB2.size)))
              | (go_at_call 60; ((with_reducible refine (RR.out _ _ _ _ e3 _ o3.row o3.says).mono ?_); rintro e w4 ⟨rfl, hb4⟩; clear RR; have hB5 := hB4.trans (hb4.mono hB4.size)))
              | ((go_at_call 62; ((with_reducible refine (NX.out _).mono ?_); rintro e w5 ⟨rfl, hb5⟩)); clear NX; have hB6 := hB5.trans (hb5.mono hB5.size))
              | ((go_at_call 62; ((with_reducible refine (NY.out _).mono ?_); rintro e w6 ⟨rfl, hb6⟩)); clear NY; have hB7 := hB6.trans (hb6.mono hB6.size); obtain ⟨hc, hf⟩ := Ref.bcell hB7; have k0 := (hc w.heap.size 0 (by simp)).trans (show _ = some (Value.int .i64 0) by simp [go_sem]); have k1 := (hc w.heap.size 1 (by simp)).trans (show _ = some (Value.int .i64 0) by simp [go_sem]); have f0 := (hf w.heap.size 0 (by simp)).trans (show _ = false by simp [go_sem]); have f1 := (hf w.heap.size 1 (by simp)).trans (show _ = false by simp [go_sem]); clear hc hf))
            have hB8 : Below w.heap.size w w6 := Ref.below_more (Ref.below_a1 _ _) hB7
            have hB9 : Below w.heap.size w ((w6.setCell { block := w.heap.size, off := 0 } (.int .i64 PX)).setCell { block := w.heap.size, off := 1 } (.int .i64 PY)) := by have z_hB8 := hB8.size; (try simp at z_hB8); (repeat' (first | (with_reducible exact Below.refl _ _) | (with_reducible refine Below.drew ?_) | (with_reducible refine below_drewN ?_ _) | ((with_reducible refine Below.setCell ?_ ?side_ _); case side_ => (first | (with_reducible exact Nat.le_refl _) | (with_reducible assumption) | omega | (simp; done) | (simp; omega))) | ((with_reducible refine Below.alloc ?_ ?side_ _); case side_ => (first | (with_reducible exact Nat.le_refl _) | (with_reducible assumption) | omega | (simp; done) | (simp; omega))) | ((with_reducible refine Below.trans ?_ (hB8.mono ?side_)); case side_ => (first | (with_reducible exact Nat.le_refl _) | (with_reducible assumption) | omega | (simp; done) | (simp; omega)))))
            refine bodyPost_ret (v := .tuple #[.agg #[.int .i64 PX, .int .i64 PY], .bool true]) (by simp [results, Try.results29, go_sem, k0, k1]) rfl ⟨rfl, hB9⟩
end Go.Proofs.Ytdhegcjclfllmaa.VecN
namespace Go.Proofs.Ytdhegcjclfllmaa.PE
open Go Go.RowKit Go.Proofs.Ytdhegcjclfllmaa.VecN
def pointillistref09_Of.f (x y : Int) : Option (Int × Int × Bool) :=
  if (-9223372036854775808 ≤ x ∧ x ≤ 9223372036854775807) ∧ -9223372036854775808 ≤ y ∧ y ≤ 9223372036854775807 then some (ofX x y, ofY x y, ofB x y) else none
theorem pointillistref09_Of.calls (a0 a1 r1 r2 : Int) (r3 : Bool) (w : World) (h : pointillistref09_Of.f a0 a1 = some (r1, r2, r3)) :
    Calls Try.prog 29 #[.int .i64 a0, .int .i64 a1] w fun e w' => e = .returned (.tuple #[.agg #[.int .i64 r1, .int .i64 r2], .bool r3]) ∧ Below w.heap.size w w' := by
  unfold pointillistref09_Of.f at h
  split at h
  · rename_i hc
    cases h
    exact refof_calls a0 a1 hc.1 hc.2 w
  · cases h
end Go.Proofs.Ytdhegcjclfllmaa.PE
