/- Package ref01, walked: Floor, bit by bit. For all numbers of few digits, the divisor above 0. Printed by gen_floor.py. -/
import Derived.Test.YtngnkgnobgfjeaaRefG
import Derived.Test.YtngnkgnobgfjeaaRefF
namespace Go.Proofs.Ytngnkgnobgfjeaa.Ref
open Go Go.RowKit Open
set_option maxRecDepth 100000
set_option linter.unusedVariables false
set_option linter.unusedSimpArgs false

/-- What hands back a number: with a sign, and digits of its own. -/
def Num0 (w : World) (z : Int) (e : Ending) (w' : World) : Prop :=
  ∃ r C cs cc n, e = .returned (.agg #[.bool r, .slice C cs.length cc]) ∧ Out w w' C cs n ∧ sg r n = z
theorem says_lt {ds : List Int} {n : Int} (h : Says ds n) {m : Nat} (hl : ds.length ≤ m) : n < pw m := by
  have h1 := val_lt h.dig
  have h2 := pw_mono hl
  rw [h.val] at h1; omega
theorem pw20 : pw 20 * 65536 = pw 21 := (pw_succ 20).symm
theorem pw_two : pw 20 = 2 ^ 320 := by unfold pw; rw [show (65536 : Int) = 2 ^ 16 by decide, ← Int.pow_mul]
/-- What Floor answers: the sign's part. -/
theorem floor_neg {a c : Int} (hc : 0 < c) : (a % c = 0 → -(a / c) = (-a) / c) ∧ (0 < a % c → -(a / c + 1) = (-a) / c) := by
  have e := Int.mul_ediv_add_emod a c
  have m1 := Int.emod_lt_of_pos a hc
  generalize a % c = m at *
  generalize a / c = q at *
  subst e
  constructor
  · rintro rfl
    rw [Int.add_zero, ← Int.mul_neg, Int.mul_ediv_cancel_left _ (by omega)]
  · intro h
    have : -(c * q + m) = (c - m) + c * (-(q + 1)) := by rw [Int.mul_neg, Int.mul_add]; omega
    rw [this, Int.add_mul_ediv_left _ _ (by omega), Int.ediv_eq_zero_of_lt (by omega) (by omega)]; omega
theorem div_le' {a c : Int} (ha : 0 ≤ a) (hc : 0 < c) (j : Nat) : 0 ≤ a / 2 ^ j / c ∧ a / 2 ^ j / c ≤ a ∧ 0 ≤ a / 2 ^ j := by
  have h0 := two_pow_pos j
  have h1 : 0 ≤ a / 2 ^ j := Int.ediv_nonneg ha (by omega)
  have h2 : a / 2 ^ j ≤ a := Int.ediv_le_self _ ha
  have h3 : a / 2 ^ j / c ≤ a / 2 ^ j := Int.ediv_le_self _ h1
  exact ⟨Int.ediv_nonneg h1 (by omega), by omega, h1⟩

theorem plus1_calls (A : Option Addr) (ps : List Int) (ca : Nat) (a : Int) (g : Nat) (w : World) (hA : IntRow w .i64 A ps) (h1 : IntRow w .i64 (some ⟨g, 0, none⟩) [1]) (ha : Says ps a) (la : ps.length ≤ 64) :
    Calls Try.prog 48 #[.slice A ps.length ca, .slice (some ⟨g, 0, none⟩) 1 1] w fun e w' => ∃ C cs cc, e = .returned (.slice C cs.length cc) ∧ Out w w' C cs (a + 1) :=
  plus_calls A (some ⟨g, 0, none⟩) ps [1] ca 1 a 1 w hA h1 ha Says.one la (by decide)

set_option maxHeartbeats 16000000 in
theorem floor_calls (s : Bool) (A B : Option Addr) (ps qs : List Int) (ca cb : Nat) (a c : Int) (w : World) (hA : IntRow w .i64 A ps) (hB : IntRow w .i64 B qs) (ha : Says ps a) (hb : Says qs c) (la : ps.length ≤ 20) (lb : qs.length ≤ 20) (hc : 0 < c) :
    Calls Try.prog 47 #[.agg #[.bool s, .slice A ps.length ca], .slice B qs.length cb] w (Num0 w (sg s a / c)) := by
  obtain ⟨W2, hW2⟩ : ∃ W2, ((w.alloc (.cells #[.bool s, .slice A ps.length ca] 57)).alloc (.cells #[.bool false, .slice none 0 0] 57)) = W2 := ⟨_, rfl⟩
  have hsz2 : w.heap.size + 1 < W2.heap.size := by subst hW2; simp
  have hbw : Below w.heap.size w W2 := by subst hW2; repeat' (first | exact Below.refl _ _ | refine Below.drew ?_ | (refine Below.setCell ?_ (by first | omega | (simp; done) | (simp; omega)) _) | (refine Below.alloc ?_ (by first | omega | (simp; done) | (simp; omega)) _))
  have F := fun (W : World) (hW : Below W2.heap.size W2 W) => two_keep (two_begin (.bool s) (.slice A ps.length ca) (.bool false) (.slice none 0 0) 57 hA hB hW2.symm) hW
  have FF := Lib.hid F
  clear F
  have F0 := two_begin (.bool s) (.slice A ps.length ca) (.bool false) (.slice none 0 0) 57 hA hB hW2.symm
  have hlt := says_lt ha la
  have hltc := says_lt hb lb
  have ha0 := ha.nonneg
  go_enter Try.func47, Try.ntmps47
  go_wp2
  go_loopw [5, 6] (fun v d wr => ∃ bs D ds dc dv, d = .slice D ds.length dc ∧ Own W2 wr v bs ∧ Bits a bs dv ∧ IntRow wr .i64 D ds ∧ Says ds dv ∧ (∀ z ∈ bs, 0 ≤ z ∧ z ≤ 65535) ∧ ds.length ≤ 20 ∧ bs.length ≤ 320) (fun v _ _ => 600 - lenOf v)
  case atStart => exact ⟨[], A, ps, ca, a, rfl, Own.nil (Below.refl _ _), Bits.start a, F0.2.2.2.2.2.2.1, ha, fun z hz => by simp at hz, la, by decide⟩
  case round =>
    obtain ⟨bs, D, ds, dc, dv, rfl, hO, hBi, hD, hS, hdg, hdl, hblen⟩ := hrel
    obtain ⟨C0, cap0, rfl, l1, l2, hR, hnew⟩ := hO.read hdg
    by_cases hp : 0 < ds.length
    · have hdv : 0 < dv := by
        rcases Int.lt_or_eq_of_le hS.nonneg with h | h
        · exact h
        · exfalso
          rw [← h] at hS
          have := hS.zero
          omega
      have hbl := hBi.small (m := 320) ha0 hdv (by rw [← pw_two]; exact hlt)
      have hBs := hBi.step
      have hx : 0 ≤ dv % 2 ∧ dv % 2 ≤ 1 := by omega
      have hS2len : ∀ es, Says es (dv / 2) → es.length ≤ 20 := fun es he => he.len (by have := says_lt hS hdl; have := hS.nonneg; omega)
      have HB := Lib.hid hBs
      have HL := Lib.hid hS2len
      have hOl := hO.row.lt
      have HOL := Lib.hid hOl
      have hob := hO.bel
      clear hBi hBs hlt hS2len hOl
      go_wp2_with (first
        | (go_at_call 55; ((with_reducible refine (half_calls D ds dc dv _ hD hS (by omega)).mono ?_); rintro e w1 ⟨D1, ds1, dc1, rfl, h1⟩; have hO1 : Own W2 w1 (.slice C0 bs.length cap0) bs := ⟨hO.row.kept (w' := w1) (row := none) ⟨h1.bel.os, h1.bel.tape, h1.bel.output, h1.bel.size, fun k hk _ => h1.bel.block k hk⟩ (by cases C0 with | none => exact Or.inl rfl | some x => exact Or.inr (by simp [Value.ownBlock])), hob.trans (h1.bel.mono hob.size)⟩))
        | (at_builtin; refine app1 rfl _ _ rfl _ _ rfl (hO1.alloc _) _ _ rfl (cell_new _ _ _) (by omega) ?_; intro v' w2 hown' hgrow'))
      go_roundw
      case rel =>
        refine ⟨bs ++ [dv % 2], D1, ds1, dc1, dv / 2, rfl, hown', HB.out, (h1.row.below (below_a1 _ _)).grown hgrow' (fun a' ha' h' => ?_), h1.says, ?_, HL.out _ h1.says, by simp; omega⟩
        · have e1 := h1.new a' ha'
          have e2 := (HOL.out _ h'.symm).2
          omega
        · intro z hz
          rcases List.mem_append.1 hz with hz | hz
          · exact hdg z hz
          · simp at hz; subst hz; omega
      case measure =>
        obtain ⟨_, _, hv', _⟩ := hown'.read (fun z hz => by
          rcases List.mem_append.1 hz with hz | hz
          · exact hdg z hz
          · simp at hz; subst hz; omega)
        simp [lenOf, hv']; omega
    · obtain ⟨wb, hwb⟩ : ∃ wb, wb = wr := ⟨_, rfl⟩
      subst hwb
      have hdv : dv = 0 := by
        rcases Int.lt_or_eq_of_le hS.nonneg with h | h
        · have := hS.pos h; omega
        · exact h.symm
      have hend := hBi.rest
      rw [hdv] at hend
      have hat := hBi.at_
      have hob := hO.bel
      clear hO hBi hD hS hnew
      have hq0 : Out wb wb none [] (a / 2 ^ bs.length / c) ∧ Out wb wb none [] (a / 2 ^ bs.length % c) := by
        rw [← hend]; simpa using Out.none wb
      have HQ := Lib.hid hq0
      have HAT := Lib.hid hat
      clear hat hq0 hend
      go_wp2
      go_loopw [9, 10, 11] (fun q r i wr => ∃ j Q qd cq R rd cr, i = .int .i64 ((j : Nat) - 1 : Int) ∧ q = .slice Q qd.length cq ∧ r = .slice R rd.length cr ∧ Out wb wr Q qd (a / 2 ^ j / c) ∧ Out wb wr R rd (a / 2 ^ j % c) ∧ j ≤ bs.length) (fun _ _ i _ => (intOf i + 1).toNat)
      case atStart => exact ⟨bs.length, none, [], 0, none, [], 0, rfl, rfl, rfl, HQ.out.1, HQ.out.2, Nat.le_refl _⟩
      case round =>
        obtain ⟨j, Q, qd, cq, R, rd, cr, rfl, rfl, rfl, hQ, hR2, hj⟩ := hrel
        obtain ⟨b1, b2, b3, b4, g1, g2, r1, r2, hs2⟩ := FF.out wr (hob.trans (hQ.bel.mono hob.size))
        obtain ⟨d1, d2, d3⟩ := div_le' ha0 hc j
        have m0 := Int.emod_nonneg (a / 2 ^ j) (show c ≠ 0 by omega)
        have m1 := Int.emod_lt_of_pos (a / 2 ^ j) hc
        have hql := hQ.says.len (m := 20) (by omega)
        have hrl := hR2.says.len (m := 20) (by omega)
        by_cases hp : 0 < j
        · obtain ⟨k, rfl⟩ : ∃ k, j = k + 1 := ⟨j - 1, by omega⟩
          have e0 : ((k + 1 : Nat) : Int) - 1 = (k : Nat) := by omega
          rw [e0]
          have hbits := hR.below hQ.bel
          obtain ⟨bb, bo, rfl, hbb, hbc⟩ := hbits.cell k (by omega)
          rw [getD_q, HAT.out k (by omega)] at hbc
          have hhb := high_bits a k
          have hds := div_step (h := a / 2 ^ (k + 1)) (q := a / 2 ^ (k + 1) / c) (r := a / 2 ^ (k + 1) % c) (bit := a / 2 ^ k % 2) hc rfl rfl (by omega) (by omega)
          rw [← hhb] at hds
          clear b1 b2 b3 b4 g1 g2 r1 hbits HQ HAT
          have hbit : a / 2 ^ k % 2 = 0 ∨ a / 2 ^ k % 2 = 1 := by omega
          generalize a / 2 ^ (k + 1) / c = q0 at *
          generalize a / 2 ^ (k + 1) % c = r0 at *
          generalize a / 2 ^ k % 2 = bit at *
          obtain ⟨hds1, hds2⟩ := hds
          have hpw := pw20
          have hlq : ∀ es, Says es (q0 + q0) → es.length ≤ 21 := fun es he => he.len (by omega)
          have hlr : ∀ es, Says es (r0 + r0) → es.length ≤ 21 := fun es he => he.len (by omega)
          have hlr1 : ∀ es, Says es (r0 + r0 + 1) → es.length ≤ 21 := fun es he => he.len (by omega)
          have HLQ := Lib.hid hlq
          have HLR := Lib.hid hlr
          have HLR1 := Lib.hid hlr1
          clear hlq hlr hlr1 hhb

          rcases hbit with rfl | rfl
          · by_cases hl : r0 + r0 < c
            · skip
              go_wp2_with (first
                | (go_at_call 48; ((with_reducible refine (plus_calls Q Q qd qd cq cq _ _ _ hQ.row hQ.row hQ.says hQ.says (by omega) (by omega)).mono ?_); rintro e w1 ⟨Q1, qd1, cq1, rfl, o1⟩; have l1 := HLQ.out _ o1.says; have x1 := hR2.row.below o1.bel))
                | (go_at_call 48; ((with_reducible refine (plus_calls R R rd rd cr cr _ _ _ x1 x1 hR2.says hR2.says (by omega) (by omega)).mono ?_); rintro e w2 ⟨R1, rd1, cr1, rfl, o2⟩; have l2 := HLR.out _ o2.says; have B12 := below_more o1.bel o2.bel; have hbc2 := (B12.cell (p := ⟨bb, bo + k, none⟩) hbb).trans hbc; have q2 := o1.row.below o2.bel; have c2 := r2.below B12))
                | (go_at_call 50; ((with_reducible refine (less_calls R1 B rd1 qs cr1 cb (r0 + r0) c _ o2.row c2 o2.says hb (by omega) (by omega)).mono ?_); rintro e w4 ⟨e4, B4⟩; rw [decide_eq_true hl] at e4; subst e4; have q4 := q2.below B4; have c4 := c2.below B4; have x4 := o2.row.below B4)))
              go_roundw
              case rel =>
                obtain ⟨v1, v2⟩ := hds1 (by omega)
                have BB : Below wb.heap.size wb w4 := hQ.bel.trans ((below_more B12 B4).mono hQ.bel.size)
                exact ⟨k, Q1, qd1, cq1, R1, rd1, cr1, rfl, rfl, rfl, ⟨q4, by rw [v1, show 2 * q0 = q0 + q0 by omega]; exact o1.says, BB, fun a' ha' => Nat.le_trans hQ.bel.size (o1.new a' ha')⟩, ⟨x4, by rw [v2, show 2 * r0 + 0 = r0 + r0 by omega]; exact o2.says, BB, fun a' ha' => by have t1 := o2.new a' ha'; have t2 := hQ.bel.size; have t3 := o1.bel.size; omega⟩, by omega⟩
              case measure => simp [intOf]
            · skip
              go_wp2_with (first
                | (go_at_call 48; ((with_reducible refine (plus_calls Q Q qd qd cq cq _ _ _ hQ.row hQ.row hQ.says hQ.says (by omega) (by omega)).mono ?_); rintro e w1 ⟨Q1, qd1, cq1, rfl, o1⟩; have l1 := HLQ.out _ o1.says; have x1 := hR2.row.below o1.bel))
                | (go_at_call 48; ((with_reducible refine (plus_calls R R rd rd cr cr _ _ _ x1 x1 hR2.says hR2.says (by omega) (by omega)).mono ?_); rintro e w2 ⟨R1, rd1, cr1, rfl, o2⟩; have l2 := HLR.out _ o2.says; have B12 := below_more o1.bel o2.bel; have hbc2 := (B12.cell (p := ⟨bb, bo + k, none⟩) hbb).trans hbc; have q2 := o1.row.below o2.bel; have c2 := r2.below B12))
                | (go_at_call 50; ((with_reducible refine (less_calls R1 B rd1 qs cr1 cb (r0 + r0) c _ o2.row c2 o2.says hb (by omega) (by omega)).mono ?_); rintro e w4 ⟨e4, B4⟩; rw [decide_eq_false (p := r0 + r0 < c) (by omega)] at e4; subst e4; have q4 := q2.below B4; have c4 := c2.below B4; have x4 := o2.row.below B4))
                | (go_at_call 51; ((with_reducible refine (minus_calls R1 B rd1 qs cr1 cb (r0 + r0) c _ x4 c4 o2.says hb (by omega) (says_len_mono o2.says hb (by omega)) (by omega)).mono ?_); rintro e w5 ⟨R3, rd3, cr3, rfl, o5⟩; have q5 := q4.below o5.bel))
                | (go_at_call 48; ((with_reducible refine (plus1_calls Q1 qd1 cq1 _ _ _ (q5.below (below_a1 _ _)) (one_row _ 1 (by decide)) o1.says (by omega)).mono ?_); rintro e w6 ⟨Q2, qd2, cq2, rfl, o6⟩; have B6 := below_more (below_a1 w5 _) o6.bel)))
              go_roundw
              case rel =>
                obtain ⟨v1, v2⟩ := hds2 (by omega)
                have B46 := below_more B4 (below_more o5.bel B6)
                have BB : Below wb.heap.size wb w6 := hQ.bel.trans ((below_more B12 B46).mono hQ.bel.size)
                have z1 := hQ.bel.size
                have z2 := B12.size
                have z3 := B4.size
                have z4 := o5.bel.size
                exact ⟨k, Q2, qd2, cq2, R3, rd3, cr3, rfl, rfl, rfl, ⟨o6.row, by rw [v1, show 2 * q0 + 1 = q0 + q0 + 1 by omega]; exact o6.says, BB, fun a' ha' => by have t1 := o6.new a' ha'; simp at t1; omega⟩, ⟨o5.row.below B6, by rw [v2, show 2 * r0 + 0 - c = r0 + r0 - c by omega]; exact o5.says, BB, fun a' ha' => by have t1 := o5.new a' ha'; omega⟩, by omega⟩
              case measure => simp [intOf]
          · by_cases hl : r0 + r0 + 1 < c
            · skip
              go_wp2_with (first
                | (go_at_call 48; ((with_reducible refine (plus_calls Q Q qd qd cq cq _ _ _ hQ.row hQ.row hQ.says hQ.says (by omega) (by omega)).mono ?_); rintro e w1 ⟨Q1, qd1, cq1, rfl, o1⟩; have l1 := HLQ.out _ o1.says; have x1 := hR2.row.below o1.bel))
                | (go_at_call 48; ((with_reducible refine (plus_calls R R rd rd cr cr _ _ _ x1 x1 hR2.says hR2.says (by omega) (by omega)).mono ?_); rintro e w2 ⟨R1, rd1, cr1, rfl, o2⟩; have l2 := HLR.out _ o2.says; have B12 := below_more o1.bel o2.bel; have hbc2 := (B12.cell (p := ⟨bb, bo + k, none⟩) hbb).trans hbc; have q2 := o1.row.below o2.bel; have c2 := r2.below B12))
                | (go_at_call 48; ((with_reducible refine (plus1_calls R1 rd1 cr1 _ _ _ (o2.row.below (below_a1 _ _)) (one_row _ 1 (by decide)) o2.says (by omega)).mono ?_); rintro e w3 ⟨R2, rd2, cr2, rfl, o3⟩; have l3 := HLR1.out _ o3.says; have B3 := below_more (below_a1 w2 _) o3.bel; have q3 := q2.below B3; have c3 := c2.below B3))
                | (go_at_call 50; ((with_reducible refine (less_calls R2 B rd2 qs cr2 cb (r0 + r0 + 1) c _ o3.row c3 o3.says hb (by omega) (by omega)).mono ?_); rintro e w4 ⟨e4, B4⟩; rw [decide_eq_true hl] at e4; subst e4; have q4 := q3.below B4; have c4 := c3.below B4; have x4 := o3.row.below B4)))
              go_roundw
              case rel =>
                obtain ⟨v1, v2⟩ := hds1 (by omega)
                have BB : Below wb.heap.size wb w4 := hQ.bel.trans ((below_more (below_more B12 B3) B4).mono hQ.bel.size)
                exact ⟨k, Q1, qd1, cq1, R2, rd2, cr2, rfl, rfl, rfl, ⟨q4, by rw [v1, show 2 * q0 = q0 + q0 by omega]; exact o1.says, BB, fun a' ha' => Nat.le_trans hQ.bel.size (o1.new a' ha')⟩, ⟨x4, by rw [v2, show 2 * r0 + 1 = r0 + r0 + 1 by omega]; exact o3.says, BB, fun a' ha' => by have t1 := o3.new a' ha'; have t2 := hQ.bel.size; have t3 := o1.bel.size; have t4 := o2.bel.size; simp at t1; omega⟩, by omega⟩
              case measure => simp [intOf]
            · skip
              go_wp2_with (first
                | (go_at_call 48; ((with_reducible refine (plus_calls Q Q qd qd cq cq _ _ _ hQ.row hQ.row hQ.says hQ.says (by omega) (by omega)).mono ?_); rintro e w1 ⟨Q1, qd1, cq1, rfl, o1⟩; have l1 := HLQ.out _ o1.says; have x1 := hR2.row.below o1.bel))
                | (go_at_call 48; ((with_reducible refine (plus_calls R R rd rd cr cr _ _ _ x1 x1 hR2.says hR2.says (by omega) (by omega)).mono ?_); rintro e w2 ⟨R1, rd1, cr1, rfl, o2⟩; have l2 := HLR.out _ o2.says; have B12 := below_more o1.bel o2.bel; have hbc2 := (B12.cell (p := ⟨bb, bo + k, none⟩) hbb).trans hbc; have q2 := o1.row.below o2.bel; have c2 := r2.below B12))
                | (go_at_call 48; ((with_reducible refine (plus1_calls R1 rd1 cr1 _ _ _ (o2.row.below (below_a1 _ _)) (one_row _ 1 (by decide)) o2.says (by omega)).mono ?_); rintro e w3 ⟨R2, rd2, cr2, rfl, o3⟩; have l3 := HLR1.out _ o3.says; have B3 := below_more (below_a1 w2 _) o3.bel; have q3 := q2.below B3; have c3 := c2.below B3))
                | (go_at_call 50; ((with_reducible refine (less_calls R2 B rd2 qs cr2 cb (r0 + r0 + 1) c _ o3.row c3 o3.says hb (by omega) (by omega)).mono ?_); rintro e w4 ⟨e4, B4⟩; rw [decide_eq_false (p := r0 + r0 + 1 < c) (by omega)] at e4; subst e4; have q4 := q3.below B4; have c4 := c3.below B4; have x4 := o3.row.below B4))
                | (go_at_call 51; ((with_reducible refine (minus_calls R2 B rd2 qs cr2 cb (r0 + r0 + 1) c _ x4 c4 o3.says hb (by omega) (says_len_mono o3.says hb (by omega)) (by omega)).mono ?_); rintro e w5 ⟨R3, rd3, cr3, rfl, o5⟩; have q5 := q4.below o5.bel))
                | (go_at_call 48; ((with_reducible refine (plus1_calls Q1 qd1 cq1 _ _ _ (q5.below (below_a1 _ _)) (one_row _ 1 (by decide)) o1.says (by omega)).mono ?_); rintro e w6 ⟨Q2, qd2, cq2, rfl, o6⟩; have B6 := below_more (below_a1 w5 _) o6.bel)))
              go_roundw
              case rel =>
                obtain ⟨v1, v2⟩ := hds2 (by omega)
                have B46 := below_more B4 (below_more o5.bel B6)
                have BB : Below wb.heap.size wb w6 := hQ.bel.trans ((below_more (below_more B12 B3) B46).mono hQ.bel.size)
                have z1 := hQ.bel.size
                have z2 := (below_more B12 B3).size
                have z3 := B4.size
                have z4 := o5.bel.size
                exact ⟨k, Q2, qd2, cq2, R3, rd3, cr3, rfl, rfl, rfl, ⟨o6.row, by rw [v1, show 2 * q0 + 1 = q0 + q0 + 1 by omega]; exact o6.says, BB, fun a' ha' => by have t1 := o6.new a' ha'; simp at t1; omega⟩, ⟨o5.row.below B6, by rw [v2, show 2 * r0 + 1 - c = r0 + r0 + 1 - c by omega]; exact o5.says, BB, fun a' ha' => by have t1 := o5.new a' ha'; omega⟩, by omega⟩
              case measure => simp [intOf]
        · obtain rfl : j = 0 := by omega
          simp only [Int.pow_zero, Int.ediv_one] at hQ hR2 d1 d2 m0 m1
          obtain ⟨fn1, fn2⟩ := floor_neg (a := a) hc
          have hQ2 := hQ.from hob
          have hpw := pw20
          generalize hqg : a / c = q0 at *
          generalize hrg : a % c = r0 at *
          clear r1 r2 HQ HAT hlt hltc
          cases s
          · go_wp2
            refine bodyPost_ret (v := .agg #[.bool false, .slice Q qd.length cq]) (by simp [results, Try.results47, go_sem, b3, b4]) rfl ⟨false, Q, qd, cq, q0, rfl, hQ2.store hbw (by omega) hsz2 _ _, ?_⟩
            simp only [sg_false]; exact hqg.symm
          · have hFN := Lib.hid (And.intro fn1 fn2)
            clear fn1 fn2
            by_cases hr : 0 < r0
            · have hrp := hR2.says.pos hr
              have hnz : ∀ es, Says es (q0 + 1) → 0 < es.length := fun es he => he.pos (by omega)
              have HNZ := Lib.hid hnz
              clear hnz
              have F2 := FF
              go_wp2_with (go_at_call 48; ((with_reducible refine (plus1_calls Q qd cq _ _ _ (hQ.row.below (below_a1 _ _)) (one_row _ 1 (by decide)) hQ.says (by omega)).mono ?_); rintro e w1 ⟨Q1, qd1, cq1, rfl, o1⟩; have l1 := HNZ.out _ o1.says; have BB : Below W2.heap.size W2 w1 := hQ2.bel.trans ((below_more (below_a1 _ _) o1.bel).mono hQ2.bel.size); obtain ⟨t1, t2, t3, t4, t5, t6, t7, t8, t9⟩ := F2.out _ BB; clear t7 t8))
              refine bodyPost_ret (v := .agg #[.bool true, .slice Q1 qd1.length cq1]) (by simp [results, Try.results47, go_sem, t3, t4]) rfl ⟨true, Q1, qd1, cq1, q0 + 1, rfl, Out.store (X := W2) ⟨o1.row, o1.says, BB, fun a' ha' => by have z1 := o1.new a' ha'; simp at z1; have z2 := hQ2.bel.size; omega⟩ hbw (by omega) hsz2 _ _, ?_⟩
              simp only [sg_true]; exact hFN.out.2 hr
            · obtain rfl : r0 = 0 := by omega
              have hrz := hR2.says.zero
              have HV0 := Lib.hid (hFN.out.1 rfl)
              by_cases hql0 : 0 < qd.length
              · go_wp2
                refine bodyPost_ret (v := .agg #[.bool true, .slice Q qd.length cq]) (by simp [results, Try.results47, go_sem, b3, b4]) rfl ⟨true, Q, qd, cq, q0, rfl, hQ2.store hbw (by omega) hsz2 _ _, ?_⟩
                simp only [sg_true]; exact HV0.out
              · have hz : q0 = 0 := by
                  rcases Int.lt_or_eq_of_le hQ.says.nonneg with h | h
                  · have := hQ.says.pos h; omega
                  · exact h.symm
                go_wp2
                refine bodyPost_ret (v := .agg #[.bool false, .slice Q qd.length cq]) (by simp [results, Try.results47, go_sem, b3, b4]) rfl ⟨false, Q, qd, cq, q0, rfl, hQ2.store hbw (by omega) hsz2 _ _, ?_⟩
                have hv := HV0.out; simp only [sg_false, sg_true]; omega
end Go.Proofs.Ytngnkgnobgfjeaa.Ref
