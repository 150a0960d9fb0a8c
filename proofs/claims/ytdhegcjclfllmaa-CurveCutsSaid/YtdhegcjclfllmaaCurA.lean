/- Package curve's At, walked. -/
import Derived.Test.YtdhegcjclfllmaaPCx0
import Derived.Test.YtdhegcjclfllmaaCurS
import Derived.Test.YtdhegcjclfllmaaCurT
import Derived.Test.YtdhegcjclfllmaaCurR
import Derived.Test.YtdhegcjclfllmaaProg
import Derived.Deep.DrawnRows
import Derived.WalkKit
import Derived.OwnWalk
import Derived.Handy
import Derived.KernelRfl
import Derived.Below
import Derived.WideLaws
import Derived.Lib.Hide
namespace Go.Proofs.Ytdhegcjclfllmaa.PC
open Go Go.RowKit
set_option maxRecDepth 100000
set_option linter.unusedVariables false
set_option linter.unusedSimpArgs false
attribute [local go_sem ↓] st8_curve st8_points
attribute [local go_sem] run_curve run_points
attribute [local go_sem] put8_size put8_far put8_row put8_frozen row8_drew row8_at row8_old row8_set row8_frozen put8_c0 put8_c1 put8_c2 put8_c3 put8_c4 put8_c5 put8_c6 put8_c7
local instance decA (a : Int) : Decidable (R40 a) := by unfold R40; infer_instance
/-- What At's blocks hold: the row, the place t, the result's block. -/
structure SA (w u : World) (t : Int) (q : Nat) (q0 q1 q2 q3 q4 q5 q6 q7 : Int) : Prop where
  row : B8 u q q0 q1 q2 q3 q4 q5 q6 q7
  tc : u.cell? ⟨w.heap.size + 1, 0, none⟩ = some (.int .i64 t)
  r0 : u.cell? ⟨w.heap.size + 1 + 1, 0, none⟩ = some (.int .i64 0)
  r1 : u.cell? ⟨w.heap.size + 1 + 1, 1, none⟩ = some (.int .i64 0)
  fr : ∀ i, u.frozen? ⟨w.heap.size + 1 + 1, i, none⟩ = false
  hq : w.heap.size + 1 + 1 < q
  hq' : q < u.heap.size
  bel : Below w.heap.size w u
section
variable {w u u1 : World} {t : Int} {q : Nat} {q0 q1 q2 q3 q4 q5 q6 q7 : Int}
theorem SA.keep (h : SA w u t q q0 q1 q2 q3 q4 q5 q6 q7) (hb : Below u.heap.size u u1) : SA w u1 t q q0 q1 q2 q3 q4 q5 q6 q7 := by
  have h1 := h.hq; have h2 := h.hq'; obtain ⟨hc, hf⟩ := bcell hb
  exact ⟨h.row.keep hb h2, (hc _ _ (by omega)).trans h.tc, (hc _ _ (by omega)).trans h.r0, (hc _ _ (by omega)).trans h.r1, fun i => (hf _ _ (by omega)).trans (h.fr i), h1, Nat.lt_of_lt_of_le h2 hb.size, h.bel.trans (hb.mono (by omega))⟩
theorem SA.set0 (h : SA w u t q q0 q1 q2 q3 q4 q5 q6 q7) (y0 y1 : Int) : SA w ((u.setCell ⟨q, 0, none⟩ (.int .i64 y0)).setCell ⟨q, 1, none⟩ (.int .i64 y1)) t q y0 y1 q2 q3 q4 q5 q6 q7 := by
  have h1 := h.hq
  have ne : ∀ b o, b ≠ q → ((u.setCell ⟨q, 0, none⟩ (.int .i64 y0)).setCell ⟨q, 1, none⟩ (.int .i64 y1)).cell? ⟨b, o, none⟩ = u.cell? ⟨b, o, none⟩ := fun b o hb => (World.cell?_setCell_other _ _ _ _ (by intro e; apply hb; injection e with e1; exact e1.symm)).trans (World.cell?_setCell_other _ _ _ _ (by intro e; apply hb; injection e with e1; exact e1.symm))
  exact ⟨h.row.at0 _ _, (ne _ _ (by omega)).trans h.tc, (ne _ _ (by omega)).trans h.r0, (ne _ _ (by omega)).trans h.r1, fun i => (World.frozen?_setCell _ _ _ _).trans ((World.frozen?_setCell _ _ _ _).trans (h.fr i)), h1, by simpa using h.hq', (h.bel.setCell (by show w.heap.size ≤ q; omega) _).setCell (by show w.heap.size ≤ q; omega) _⟩
theorem SA.set1 (h : SA w u t q q0 q1 q2 q3 q4 q5 q6 q7) (y0 y1 : Int) : SA w ((u.setCell ⟨q, 2, none⟩ (.int .i64 y0)).setCell ⟨q, 3, none⟩ (.int .i64 y1)) t q q0 q1 y0 y1 q4 q5 q6 q7 := by
  have h1 := h.hq
  have ne : ∀ b o, b ≠ q → ((u.setCell ⟨q, 2, none⟩ (.int .i64 y0)).setCell ⟨q, 3, none⟩ (.int .i64 y1)).cell? ⟨b, o, none⟩ = u.cell? ⟨b, o, none⟩ := fun b o hb => (World.cell?_setCell_other _ _ _ _ (by intro e; apply hb; injection e with e1; exact e1.symm)).trans (World.cell?_setCell_other _ _ _ _ (by intro e; apply hb; injection e with e1; exact e1.symm))
  exact ⟨h.row.at1 _ _, (ne _ _ (by omega)).trans h.tc, (ne _ _ (by omega)).trans h.r0, (ne _ _ (by omega)).trans h.r1, fun i => (World.frozen?_setCell _ _ _ _).trans ((World.frozen?_setCell _ _ _ _).trans (h.fr i)), h1, by simpa using h.hq', (h.bel.setCell (by show w.heap.size ≤ q; omega) _).setCell (by show w.heap.size ≤ q; omega) _⟩
theorem SA.set2 (h : SA w u t q q0 q1 q2 q3 q4 q5 q6 q7) (y0 y1 : Int) : SA w ((u.setCell ⟨q, 4, none⟩ (.int .i64 y0)).setCell ⟨q, 5, none⟩ (.int .i64 y1)) t q q0 q1 q2 q3 y0 y1 q6 q7 := by
  have h1 := h.hq
  have ne : ∀ b o, b ≠ q → ((u.setCell ⟨q, 4, none⟩ (.int .i64 y0)).setCell ⟨q, 5, none⟩ (.int .i64 y1)).cell? ⟨b, o, none⟩ = u.cell? ⟨b, o, none⟩ := fun b o hb => (World.cell?_setCell_other _ _ _ _ (by intro e; apply hb; injection e with e1; exact e1.symm)).trans (World.cell?_setCell_other _ _ _ _ (by intro e; apply hb; injection e with e1; exact e1.symm))
  exact ⟨h.row.at2 _ _, (ne _ _ (by omega)).trans h.tc, (ne _ _ (by omega)).trans h.r0, (ne _ _ (by omega)).trans h.r1, fun i => (World.frozen?_setCell _ _ _ _).trans ((World.frozen?_setCell _ _ _ _).trans (h.fr i)), h1, by simpa using h.hq', (h.bel.setCell (by show w.heap.size ≤ q; omega) _).setCell (by show w.heap.size ≤ q; omega) _⟩
theorem SA.set3 (h : SA w u t q q0 q1 q2 q3 q4 q5 q6 q7) (y0 y1 : Int) : SA w ((u.setCell ⟨q, 6, none⟩ (.int .i64 y0)).setCell ⟨q, 7, none⟩ (.int .i64 y1)) t q q0 q1 q2 q3 q4 q5 y0 y1 := by
  have h1 := h.hq
  have ne : ∀ b o, b ≠ q → ((u.setCell ⟨q, 6, none⟩ (.int .i64 y0)).setCell ⟨q, 7, none⟩ (.int .i64 y1)).cell? ⟨b, o, none⟩ = u.cell? ⟨b, o, none⟩ := fun b o hb => (World.cell?_setCell_other _ _ _ _ (by intro e; apply hb; injection e with e1; exact e1.symm)).trans (World.cell?_setCell_other _ _ _ _ (by intro e; apply hb; injection e with e1; exact e1.symm))
  exact ⟨h.row.at3 _ _, (ne _ _ (by omega)).trans h.tc, (ne _ _ (by omega)).trans h.r0, (ne _ _ (by omega)).trans h.r1, fun i => (World.frozen?_setCell _ _ _ _).trans ((World.frozen?_setCell _ _ _ _).trans (h.fr i)), h1, by simpa using h.hq', (h.bel.setCell (by show w.heap.size ≤ q; omega) _).setCell (by show w.heap.size ≤ q; omega) _⟩
theorem SA.begin (tc : u.cell? ⟨w.heap.size + 1, 0, none⟩ = some (.int .i64 t)) (r0 : u.cell? ⟨w.heap.size + 1 + 1, 0, none⟩ = some (.int .i64 0)) (r1 : u.cell? ⟨w.heap.size + 1 + 1, 1, none⟩ = some (.int .i64 0)) (fr : ∀ i, u.frozen? ⟨w.heap.size + 1 + 1, i, none⟩ = false) (hs : w.heap.size + 1 + 1 < u.heap.size) (bel : Below w.heap.size w u) (hb : Below u.heap.size u u1) (ty : TypeId) : SA w (put8 (u1.alloc (.cells #[.int .i64 0, .int .i64 0, .int .i64 0, .int .i64 0, .int .i64 0, .int .i64 0, .int .i64 0, .int .i64 0] ty)) u1.heap.size q0 q1 q2 q3 q4 q5 q6 q7) t u1.heap.size q0 q1 q2 q3 q4 q5 q6 q7 := by
  have ha : Below u1.heap.size u1 (u1.alloc (.cells #[.int .i64 0, .int .i64 0, .int .i64 0, .int .i64 0, .int .i64 0, .int .i64 0, .int .i64 0, .int .i64 0] ty)) := (Below.refl _ _).alloc (Nat.le_refl _) _
  have hn := row8_new u1 (.int .i64 0) (.int .i64 0) (.int .i64 0) (.int .i64 0) (.int .i64 0) (.int .i64 0) (.int .i64 0) (.int .i64 0) ty
  have h2 := hb.size
  have h3 := hb.trans (ha.mono h2)
  obtain ⟨hc, hf⟩ := bcell h3
  have far : ∀ b o, b < u.heap.size → (put8 (u1.alloc (.cells #[.int .i64 0, .int .i64 0, .int .i64 0, .int .i64 0, .int .i64 0, .int .i64 0, .int .i64 0, .int .i64 0] ty)) u1.heap.size q0 q1 q2 q3 q4 q5 q6 q7).cell? ⟨b, o, none⟩ = u.cell? ⟨b, o, none⟩ := fun b o h => (put8_far (by omega)).trans (hc b o h)
  exact ⟨B8.put hn, (far _ _ (by omega)).trans tc, (far _ _ (by omega)).trans r0, (far _ _ (by omega)).trans r1, fun i => put8_frozen.trans ((hf _ _ (by omega)).trans (fr i)), by omega, by rw [put8_size]; simp, put8_below (bel.trans (h3.mono bel.size)) (by have := bel.size; omega)⟩
end
/-- The place, brought between 0 and 2^16. -/
def clip (t : Int) : Int := min (max t 0) 65536
theorem clip_in (t : Int) : 0 ≤ clip t ∧ clip t ≤ 65536 := by unfold clip; omega
/-- One number of the point at a place. -/
def at1 (a c e g t : Int) : Int := step (step (step a c t) (step c e t) t) (step (step c e t) (step e g t) t) t
def curve_At.f (a b c d e f g h t : Int) : Option (Int × Int) := if R40 a ∧ R40 b ∧ R40 c ∧ R40 d ∧ R40 e ∧ R40 f ∧ R40 g ∧ R40 h then some (at1 a c e g (clip t), at1 b d f h (clip t)) else none
set_option maxHeartbeats 16000000 in
theorem curve_At.calls (a b c d e f g h t r1 r2 : Int) (w : World) (hf : curve_At.f a b c d e f g h t = some (r1, r2)) :
    Calls Try.prog 24 #[.agg #[.int .i64 a, .int .i64 b, .int .i64 c, .int .i64 d, .int .i64 e, .int .i64 f, .int .i64 g, .int .i64 h], .int .i64 t] w fun e' w' => e' = .returned (.agg #[.int .i64 r1, .int .i64 r2]) ∧ Below w.heap.size w w' := by
  unfold curve_At.f at hf
  split at hf
  case isFalse => cases hf
  rename_i hr
  obtain ⟨ha, hb, hc, hd, he, hf', hg, hh⟩ := hr
  simp only [Option.some.injEq, Prod.mk.injEq] at hf
  obtain ⟨rfl, rfl⟩ := hf
  have ht := clip_in t
  have hm : min (max t 0) 65536 = clip t := rfl
  unfold at1
  have Hm0 := step_r40 ht.1 ht.2 ha hc
  have Hm1 := step_r40 ht.1 ht.2 hb hd
  have Hm2 := step_r40 ht.1 ht.2 hc he
  have Hm3 := step_r40 ht.1 ht.2 hd hf'
  have Hm4 := step_r40 ht.1 ht.2 he hg
  have Hm5 := step_r40 ht.1 ht.2 hf' hh
  have C0 := Lib.hid (fun G_ O_ C_ T_ W_ i1 i2 i3 i4 i5 i6 i7 i8 => bothpart_calls G_ O_ C_ a b c d (clip t) T_ ⟨ha, hb, hc, hd⟩ ht W_ i1 i2 i3 i4 i5 i6 i7 i8)
  generalize step a c (clip t) = m0 at *
  generalize step b d (clip t) = m1 at *
  have C1 := Lib.hid (fun G_ O_ C_ T_ W_ i1 i2 i3 i4 i5 i6 i7 i8 => bothpart_calls G_ O_ C_ c d e f (clip t) T_ ⟨hc, hd, he, hf'⟩ ht W_ i1 i2 i3 i4 i5 i6 i7 i8)
  generalize step c e (clip t) = m2 at *
  generalize step d f (clip t) = m3 at *
  have C2 := Lib.hid (fun G_ O_ C_ T_ W_ i1 i2 i3 i4 i5 i6 i7 i8 => bothpart_calls G_ O_ C_ e f g h (clip t) T_ ⟨he, hf', hg, hh⟩ ht W_ i1 i2 i3 i4 i5 i6 i7 i8)
  generalize step e g (clip t) = m4 at *
  generalize step f h (clip t) = m5 at *
  have Hm6 := step_r40 ht.1 ht.2 Hm0 Hm2
  have Hm7 := step_r40 ht.1 ht.2 Hm1 Hm3
  have Hm8 := step_r40 ht.1 ht.2 Hm2 Hm4
  have Hm9 := step_r40 ht.1 ht.2 Hm3 Hm5
  have C3 := Lib.hid (fun G_ O_ C_ T_ W_ i1 i2 i3 i4 i5 i6 i7 i8 => bothpart_calls G_ O_ C_ m0 m1 m2 m3 (clip t) T_ ⟨Hm0, Hm1, Hm2, Hm3⟩ ht W_ i1 i2 i3 i4 i5 i6 i7 i8)
  generalize step m0 m2 (clip t) = m6 at *
  generalize step m1 m3 (clip t) = m7 at *
  have C4 := Lib.hid (fun G_ O_ C_ T_ W_ i1 i2 i3 i4 i5 i6 i7 i8 => bothpart_calls G_ O_ C_ m2 m3 m4 m5 (clip t) T_ ⟨Hm2, Hm3, Hm4, Hm5⟩ ht W_ i1 i2 i3 i4 i5 i6 i7 i8)
  generalize step m2 m4 (clip t) = m8 at *
  generalize step m3 m5 (clip t) = m9 at *
  have Hm10 := step_r40 ht.1 ht.2 Hm6 Hm8
  have Hm11 := step_r40 ht.1 ht.2 Hm7 Hm9
  have C5 := Lib.hid (fun G_ O_ C_ T_ W_ i1 i2 i3 i4 i5 i6 i7 i8 => bothpart_calls G_ O_ C_ m6 m7 m8 m9 (clip t) T_ ⟨Hm6, Hm7, Hm8, Hm9⟩ ht W_ i1 i2 i3 i4 i5 i6 i7 i8)
  generalize step m6 m8 (clip t) = m10 at *
  generalize step m7 m9 (clip t) = m11 at *
  generalize clip t = tc at *
  clear ha hb hc hd he hf' hg hh Hm0 Hm1 Hm2 Hm3 Hm4 Hm5 Hm6 Hm7 Hm8 Hm9 Hm10 Hm11 ht
  go_enter Try.func24, Try.ntmps24
  go_wp2_with (go_at_call 48; ((with_reducible refine (of_calls a b c d e f g h _).mono ?_); rintro e' w3 ⟨rfl, hb3⟩))
  have S1 := SA.begin (w := w) (t := tc) (q0 := a) (q1 := b) (q2 := c) (q3 := d) (q4 := e) (q5 := f) (q6 := g) (q7 := h) (by simp [go_sem]) (by simp [go_sem]) (by simp [go_sem]) (by simp [go_sem]) (by simp) (by (repeat' (first | (with_reducible exact Below.refl _ _) | (with_reducible refine Below.drew ?_) | (with_reducible refine below_drewN ?_ _) | ((with_reducible refine Below.setCell ?_ ?side_ _); case side_ => (first | (with_reducible exact Nat.le_refl _) | (with_reducible assumption) | omega | (simp; done) | (simp; omega))) | ((with_reducible refine Below.alloc ?_ ?side_ _); case side_ => (first | (with_reducible exact Nat.le_refl _) | (with_reducible assumption) | omega | (simp; done) | (simp; omega)))))) hb3 56
  generalize put8 (w3.alloc (.cells #[.int .i64 0, .int .i64 0, .int .i64 0, .int .i64 0, .int .i64 0, .int .i64 0, .int .i64 0, .int .i64 0] 56)) w3.heap.size a b c d e f g h = u1 at S1 ⊢
  generalize w3.heap.size = b6 at S1 ⊢
  clear hb3 w3
  refine wp_loop_rounds 4 ?_
  rw [rounds_succ]
  go_wp2
  refine wp_loop_rounds 4 ?_
  rw [rounds_succ]
  have hq := S1.hq'
  have htb : w.heap.size + 1 < u1.heap.size := by have := S1.hq; omega
  have htc := S1.tc
  obtain ⟨zq, q0, q1, q2, q3, q4, q5, q6, q7⟩ := S1.row
  go_wp2_with (go_at_call 46; ((with_reducible refine (C0.out b6 0 4 (w.heap.size + 1) _ hq (by decide) q0 q1 q2 q3 htc htb).mono ?_); rintro e' wk ⟨rfl, hbk⟩; have Sk := S1.keep hbk; obtain ⟨yq, y0, y1, y2, y3, y4, y5, y6, y7⟩ := Sk.row))
  have S2 := Sk.set0 m0 m1
  generalize (wk.setCell ⟨b6, 0, none⟩ (.int .i64 m0)).setCell ⟨b6, 1, none⟩ (.int .i64 m1) = u2 at S2 ⊢
  clear yq y0 y1 y2 y3 y4 y5 y6 y7 Sk hbk wk hq htb htc zq q0 q1 q2 q3 q4 q5 q6 q7 S1 u1
  rw [rounds_succ]
  have hq := S2.hq'
  have htb : w.heap.size + 1 < u2.heap.size := by have := S2.hq; omega
  have htc := S2.tc
  obtain ⟨zq, q0, q1, q2, q3, q4, q5, q6, q7⟩ := S2.row
  go_wp2_with (go_at_call 46; ((with_reducible refine (C1.out b6 2 3 (w.heap.size + 1) _ hq (by decide) q2 q3 q4 q5 htc htb).mono ?_); rintro e' wk ⟨rfl, hbk⟩; have Sk := S2.keep hbk; obtain ⟨yq, y0, y1, y2, y3, y4, y5, y6, y7⟩ := Sk.row))
  have S3 := Sk.set1 m2 m3
  generalize (wk.setCell ⟨b6, 2, none⟩ (.int .i64 m2)).setCell ⟨b6, 3, none⟩ (.int .i64 m3) = u3 at S3 ⊢
  clear yq y0 y1 y2 y3 y4 y5 y6 y7 Sk hbk wk hq htb htc zq q0 q1 q2 q3 q4 q5 q6 q7 S2 u2
  rw [rounds_succ]
  have hq := S3.hq'
  have htb : w.heap.size + 1 < u3.heap.size := by have := S3.hq; omega
  have htc := S3.tc
  obtain ⟨zq, q0, q1, q2, q3, q4, q5, q6, q7⟩ := S3.row
  go_wp2_with (go_at_call 46; ((with_reducible refine (C2.out b6 4 2 (w.heap.size + 1) _ hq (by decide) q4 q5 q6 q7 htc htb).mono ?_); rintro e' wk ⟨rfl, hbk⟩; have Sk := S3.keep hbk; obtain ⟨yq, y0, y1, y2, y3, y4, y5, y6, y7⟩ := Sk.row))
  have S4 := Sk.set2 m4 m5
  generalize (wk.setCell ⟨b6, 4, none⟩ (.int .i64 m4)).setCell ⟨b6, 5, none⟩ (.int .i64 m5) = u4 at S4 ⊢
  clear yq y0 y1 y2 y3 y4 y5 y6 y7 Sk hbk wk hq htb htc zq q0 q1 q2 q3 q4 q5 q6 q7 S3 u3
  rw [rounds_succ]
  go_wp2
  rw [rounds_succ]
  go_wp2
  refine wp_loop_rounds 3 ?_
  rw [rounds_succ]
  have hq := S4.hq'
  have htb : w.heap.size + 1 < u4.heap.size := by have := S4.hq; omega
  have htc := S4.tc
  obtain ⟨zq, q0, q1, q2, q3, q4, q5, q6, q7⟩ := S4.row
  go_wp2_with (go_at_call 46; ((with_reducible refine (C3.out b6 0 4 (w.heap.size + 1) _ hq (by decide) q0 q1 q2 q3 htc htb).mono ?_); rintro e' wk ⟨rfl, hbk⟩; have Sk := S4.keep hbk; obtain ⟨yq, y0, y1, y2, y3, y4, y5, y6, y7⟩ := Sk.row))
  have S5 := Sk.set0 m6 m7
  generalize (wk.setCell ⟨b6, 0, none⟩ (.int .i64 m6)).setCell ⟨b6, 1, none⟩ (.int .i64 m7) = u5 at S5 ⊢
  clear yq y0 y1 y2 y3 y4 y5 y6 y7 Sk hbk wk hq htb htc zq q0 q1 q2 q3 q4 q5 q6 q7 S4 u4
  rw [rounds_succ]
  have hq := S5.hq'
  have htb : w.heap.size + 1 < u5.heap.size := by have := S5.hq; omega
  have htc := S5.tc
  obtain ⟨zq, q0, q1, q2, q3, q4, q5, q6, q7⟩ := S5.row
  go_wp2_with (go_at_call 46; ((with_reducible refine (C4.out b6 2 3 (w.heap.size + 1) _ hq (by decide) q2 q3 q4 q5 htc htb).mono ?_); rintro e' wk ⟨rfl, hbk⟩; have Sk := S5.keep hbk; obtain ⟨yq, y0, y1, y2, y3, y4, y5, y6, y7⟩ := Sk.row))
  have S6 := Sk.set1 m8 m9
  generalize (wk.setCell ⟨b6, 2, none⟩ (.int .i64 m8)).setCell ⟨b6, 3, none⟩ (.int .i64 m9) = u6 at S6 ⊢
  clear yq y0 y1 y2 y3 y4 y5 y6 y7 Sk hbk wk hq htb htc zq q0 q1 q2 q3 q4 q5 q6 q7 S5 u5
  rw [rounds_succ]
  go_wp2
  rw [rounds_succ]
  go_wp2
  refine wp_loop_rounds 2 ?_
  rw [rounds_succ]
  have hq := S6.hq'
  have htb : w.heap.size + 1 < u6.heap.size := by have := S6.hq; omega
  have htc := S6.tc
  obtain ⟨zq, q0, q1, q2, q3, q4, q5, q6, q7⟩ := S6.row
  go_wp2_with (go_at_call 46; ((with_reducible refine (C5.out b6 0 4 (w.heap.size + 1) _ hq (by decide) q0 q1 q2 q3 htc htb).mono ?_); rintro e' wk ⟨rfl, hbk⟩; have Sk := S6.keep hbk; obtain ⟨yq, y0, y1, y2, y3, y4, y5, y6, y7⟩ := Sk.row))
  have S7 := Sk.set0 m10 m11
  generalize (wk.setCell ⟨b6, 0, none⟩ (.int .i64 m10)).setCell ⟨b6, 1, none⟩ (.int .i64 m11) = u7 at S7 ⊢
  clear yq y0 y1 y2 y3 y4 y5 y6 y7 Sk hbk wk hq htb htc zq q0 q1 q2 q3 q4 q5 q6 q7 S6 u6
  rw [rounds_succ]
  go_wp2
  rw [rounds_succ]
  obtain ⟨zq, q0, q1, q2, q3, q4, q5, q6, q7⟩ := S7.row
  have g0 := S7.r0
  have g1 := S7.r1
  have g2 := S7.fr
  have hB := S7.bel
  clear S7
  go_wp2
  refine bodyPost_ret (v := .agg #[.int .i64 m10, .int .i64 m11]) (by simp [results, Try.results24, go_sem, g0, g1]) rfl ⟨rfl, ?_⟩
  exact (hB.setCell (by show w.heap.size ≤ w.heap.size + 1 + 1; omega) _).setCell (by show w.heap.size ≤ w.heap.size + 1 + 1; omega) _
end Go.Proofs.Ytdhegcjclfllmaa.PC
