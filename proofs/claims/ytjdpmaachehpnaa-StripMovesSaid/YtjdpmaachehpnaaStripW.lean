/- The law StripMoves, walked. For all inputs. -/
import Derived.Test.YtjdpmaachehpnaaStripQ
import Derived.Test.YtjdpmaachehpnaaStripM
import Derived.Deep.DrawnRows
import Derived.Deep.RegionWith
import Derived.Deep.RegionHeld3
namespace Go.Proofs.Ytjdpmaachehpnaa.Strip
open Go Go.RowKit Go.Shelf Range Go.Proofs.YtjdpmaachehpnaaW.PrintWords Go.Proofs.YtjdpmaachehpnaaW.PrintLast Go.Proofs.Ytjdpmaachehpnaa.PE
set_option maxRecDepth 100000
set_option linter.unusedVariables false
set_option linter.unusedSimpArgs false
attribute [local go_sem] Oper.semAt_some
attribute [local go_sem ↓] Go.wp_at_zero Go.wp_at_succ

/-- A row of strips, its block not below B0 and below B. -/
def RR (B0 B : Nat) (w : World) (A : Option Addr) (xs : List Rw) : Prop :=
  ∀ i (h : i < xs.length), ∃ b, A = some ⟨b, 0, none⟩ ∧ B0 ≤ b ∧ b < B ∧ w.cell? ⟨b, i * 5, none⟩ = some (.int .i64 xs[i].f0) ∧ w.cell? ⟨b, i * 5 + 1, none⟩ = some (.int .i64 xs[i].f1.f0) ∧ w.cell? ⟨b, i * 5 + 2, none⟩ = some (.int .i64 xs[i].f1.f1) ∧ w.cell? ⟨b, i * 5 + 3, none⟩ = some (.int .i64 xs[i].f1.f2) ∧ w.cell? ⟨b, i * 5 + 4, none⟩ = some (.int .i64 xs[i].f1.f3)
theorem RR.below {B0 B : Nat} {w w1 : World} {A : Option Addr} {xs : List Rw} (h : RR B0 B w A xs) (hb : Below B w w1) : RR B0 B w1 A xs := fun i hi => by
  obtain ⟨b, e, l0, hl, c0, c1, c2, c3, c4⟩ := h i hi
  exact ⟨b, e, l0, hl, (hb.cell (p := ⟨b, _, none⟩) hl).trans c0, (hb.cell (p := ⟨b, _, none⟩) hl).trans c1, (hb.cell (p := ⟨b, _, none⟩) hl).trans c2, (hb.cell (p := ⟨b, _, none⟩) hl).trans c3, (hb.cell (p := ⟨b, _, none⟩) hl).trans c4⟩
theorem RR.drew {B0 B : Nat} {w : World} {A : Option Addr} {xs : List Rw} (h : RR B0 B w A xs) : RR B0 B w.drew A xs := h
theorem cR_len (xs : List Rw) : (xs.flatMap cR).length = 5 * xs.length := by
  induction xs with
  | nil => rfl
  | cons x xs ih => show (cR x ++ xs.flatMap cR).length = _; rw [List.length_append, ih]; simp [cR]; omega
theorem cR_get : ∀ (xs : List Rw) (i j : Nat) (h : i < xs.length), j < 5 → (xs.flatMap cR)[i * 5 + j]? = (cR xs[i])[j]?
  | x :: xs, 0, j, _, hj => by
    show (cR x ++ xs.flatMap cR)[0 * 5 + j]? = _
    rw [List.getElem?_append_left (by simp [cR]; omega)]
    simp
  | x :: xs, i + 1, j, h, hj => by
    show (cR x ++ xs.flatMap cR)[(i + 1) * 5 + j]? = _
    rw [List.getElem?_append_right (by simp [cR]; omega)]
    have := cR_get xs i j (by simpa using h) hj
    rw [show (i + 1) * 5 + j - (cR x).length = i * 5 + j by simp [cR]; omega, this]
    simp
theorem RR.of_own {B : Nat} {w0 w : World} {v : Value} {xs : List Rw} (h : Row.OwnR 34 5 B w0 w v xs.length (xs.flatMap cR)) : ∃ A cap, v = .slice A xs.length cap ∧ xs.length ≤ cap ∧ cap ≤ maxLen ∧ RR B w.heap.size w A xs := by
  obtain ⟨A, cap, rfl, h1, h2, h3, _⟩ := h.read
  refine ⟨A, cap, rfl, h1, h2, fun i hi => ?_⟩
  have g := fun j (hj : j < 5) => cR_get xs i j hi hj
  obtain ⟨b, rfl, hb0, hb, c0⟩ := h3 i 0 hi (by omega)
  obtain ⟨_, e1, _, _, c1⟩ := h3 i 1 hi (by omega); cases e1
  obtain ⟨_, e2, _, _, c2⟩ := h3 i 2 hi (by omega); cases e2
  obtain ⟨_, e3, _, _, c3⟩ := h3 i 3 hi (by omega); cases e3
  obtain ⟨_, e4, _, _, c4⟩ := h3 i 4 hi (by omega); cases e4
  refine ⟨b, rfl, hb0, hb, ?_, ?_, ?_, ?_, ?_⟩
  · have := c0.trans (g 0 (by omega)); simpa [cR] using this
  · have := c1.trans (g 1 (by omega)); simpa [cR] using this
  · have := c2.trans (g 2 (by omega)); simpa [cR] using this
  · have := c3.trans (g 3 (by omega)); simpa [cR] using this
  · have := c4.trans (g 4 (by omega)); simpa [cR] using this

theorem strips_le {px py qx qy h : Int} (hd : Dom px py qx qy h) (hh : h ≤ 300) : (strips px py qx qy h).length ≤ 999 := by
  have e : (strips px py qx qy h).length = sN py qy h := by unfold strips; simp
  have c0 : (sN py qy h : Int) ≤ h := by
    by_cases hn : 0 < sN py qy h
    · have a := row_bounds hd (k := 0) hn
      have b := row_bounds hd (k := sN py qy h - 1) (by omega)
      unfold sRow at a b
      split at a <;> omega
    · have := hd.h0; omega
  omega
theorem told_all (px py qx qy h : Int) (hd : Dom px py qx qy h) (hh : h ≤ 300) (w : World) : Calls Try.prog 16 #[.agg #[.int .i64 px, .int .i64 py, .int .i64 qx, .int .i64 qy], .int .i64 h, .int .i64 999] w fun e w' => ∃ A cap, e = .returned (.slice A (strips px py qx qy h).length cap) ∧ RR w.heap.size w'.heap.size w' A (strips px py qx qy h) ∧ Below w.heap.size w w' := by
  have hl := strips_le hd hh
  refine (told_calls px py qx qy h hd 999 (by omega) w).mono ?_
  rintro e w' ⟨v, k, rfl, hk, hO⟩
  rw [Nat.min_eq_right hl] at hk
  subst hk
  rw [List.take_of_length_le hl] at hO
  obtain ⟨A, cap, rfl, h1, h2, hR⟩ := RR.of_own hO
  exact ⟨A, cap, rfl, hR, hO.bel⟩
theorem sw_keep {W W1 : World} {a b : Nat} {v0 v1 v2 v3 u0 u1 u2 u3 : Value} (h : (W.cell? ⟨a, 0, none⟩ = some v0 ∧ W.cell? ⟨a, 1, none⟩ = some v1 ∧ W.cell? ⟨a, 2, none⟩ = some v2 ∧ W.cell? ⟨a, 3, none⟩ = some v3 ∧ a < W.heap.size) ∧ W.cell? ⟨b, 0, none⟩ = some u0 ∧ W.cell? ⟨b, 1, none⟩ = some u1 ∧ W.cell? ⟨b, 2, none⟩ = some u2 ∧ W.cell? ⟨b, 3, none⟩ = some u3 ∧ b < W.heap.size) (hb : Below W.heap.size W W1) :
    (W1.cell? ⟨a, 0, none⟩ = some v0 ∧ W1.cell? ⟨a, 1, none⟩ = some v1 ∧ W1.cell? ⟨a, 2, none⟩ = some v2 ∧ W1.cell? ⟨a, 3, none⟩ = some v3 ∧ a < W1.heap.size) ∧ W1.cell? ⟨b, 0, none⟩ = some u0 ∧ W1.cell? ⟨b, 1, none⟩ = some u1 ∧ W1.cell? ⟨b, 2, none⟩ = some u2 ∧ W1.cell? ⟨b, 3, none⟩ = some u3 ∧ b < W1.heap.size := by
  obtain ⟨⟨h0, h1, h2, h3, h4⟩, g0, g1, g2, g3, g4⟩ := h
  have k := fun i => hb.cell (p := ⟨a, i, none⟩) h4
  have l := fun i => hb.cell (p := ⟨b, i, none⟩) g4
  exact ⟨⟨(k _).trans h0, (k _).trans h1, (k _).trans h2, (k _).trans h3, Nat.lt_of_lt_of_le h4 hb.size⟩, (l _).trans g0, (l _).trans g1, (l _).trans g2, (l _).trans g3, Nat.lt_of_lt_of_le g4 hb.size⟩
theorem eqStrip (d : Nat) (w : World) (a b c e : Int) : (Op.equalIn (d + 2) 32 (.agg #[.int .i64 a, .int .i64 b, .int .i64 c, .int .i64 e]) (.agg #[.int .i64 a, .int .i64 b, .int .i64 c, .int .i64 e])).run Try.prog w = .ok true w := by
  refine eqA_of Try.underlying32 (by kernel_rfl) ?_
  refine eqf_end (by rfl) (by go_simp; rfl) (by go_simp; rfl) (by go_simp; done) ?_
  refine eqf_end (by rfl) (by go_simp; rfl) (by go_simp; rfl) (by go_simp; done) ?_
  refine eqf_end (by rfl) (by go_simp; rfl) (by go_simp; rfl) (by go_simp; done) ?_
  refine eqf_end (by rfl) (by go_simp; rfl) (by go_simp; rfl) (by go_simp; done) eqf_nil
theorem eqRow (d : Nat) (w : World) (r a b c e : Int) : (Op.equalIn (d + 3) 34 (.agg #[.int .i64 r, .int .i64 a, .int .i64 b, .int .i64 c, .int .i64 e]) (.agg #[.int .i64 r, .int .i64 a, .int .i64 b, .int .i64 c, .int .i64 e])).run Try.prog w = .ok true w := by
  refine eqA_of Try.underlying34 (by kernel_rfl) ?_
  refine eqf_end (by rfl) (by first | (go_simp; done) | (go_simp; rfl)) (by first | (go_simp; done) | (go_simp; rfl)) (by go_simp; done) ?_
  refine eqf_end (by rfl) (by first | (go_simp; done) | (go_simp; rfl)) (by first | (go_simp; done) | (go_simp; rfl)) (eqStrip d w a b c e) eqf_nil
attribute [local go_sem high] eqRow
theorem strips_num {px py qx qy h : Int} (hd : Dom px py qx qy h) {j : Nat} {x : Rw} (hx : (strips px py qx qy h)[j]? = some x) : (0 ≤ x.f0 ∧ x.f0 ≤ 100000) ∧ (-17179869184 ≤ x.f1.f0 ∧ x.f1.f0 ≤ 17179869184) ∧ (-17179869184 ≤ x.f1.f2 ∧ x.f1.f2 ≤ 17179869184) := by
  unfold strips at hx
  rw [List.getElem?_map, Option.map_eq_some_iff] at hx
  obtain ⟨k, hk, rfl⟩ := hx
  obtain ⟨hi, hk⟩ := List.getElem?_eq_some_iff.1 hk
  simp only [List.length_range] at hi
  simp only [List.getElem_range] at hk
  subst hk
  obtain ⟨r0, r1, r2, r3⟩ := row_bounds hd hi
  obtain ⟨c1, c2, _⟩ := cl_in r2 r3
  have a := xAt_in hd c1
  have b := xAt_in hd c2
  have i1 := hd.ipx
  have i2 := hd.iqx
  have i3 := hd.h1
  unfold InE at i1 i2
  show (0 ≤ sRow py qy h j ∧ sRow py qy h j ≤ 100000) ∧ (-17179869184 ≤ xAt px py qx qy (cl py (sRow py qy h j)) ∧ xAt px py qx qy (cl py (sRow py qy h j)) ≤ 17179869184) ∧ (-17179869184 ≤ xAt px py qx qy (cl qy (sRow py qy h j)) ∧ xAt px py qx qy (cl qy (sRow py qy h j)) ≤ 17179869184)
  omega
theorem cnt_len {px py qx qy h rows dx : Int} (hd : Dom px py qx qy h) (hr : 0 ≤ rows) : cnt py qy h rows (strips (px + dx) (py + rows * 65536) (qx + dx) (qy + rows * 65536) (h + rows)).length = (strips px py qx qy h).length := by
  have e1 : (strips (px + dx) (py + rows * 65536) (qx + dx) (qy + rows * 65536) (h + rows)).length = sN (py + rows * 65536) (qy + rows * 65536) (h + rows) := by unfold strips; simp
  have e2 : (strips px py qx qy h).length = sN py qy h := by unfold strips; simp
  rw [e1, e2, cnt_all hd hr]
/-- The box of a strip's row. -/
theorem below_box {B : Nat} {w wr : World} (h : Below B w wr) (hB : B ≤ wr.heap.size) (o : Obj) : Below B w (wr.alloc o) := h.alloc hB o
theorem wid {x : Int} (h0 : -9223372036854775808 ≤ x) (h1 : x ≤ 9223372036854775807) : IntKind.i64.wrap x = x ∧ wrap64 x = x := ⟨(IntKind.wrap_i64 x).trans (by omega), by unfold wrap64; omega⟩
set_option maxHeartbeats 8000000 in
theorem moves_go (px py qx qy b0 b1 ac : Int) (p0 : -8589934592 ≤ px ∧ px ≤ 8589934592) (p1 : -8589934592 ≤ py ∧ py ≤ 8589934592) (p2 : -8589934592 ≤ qx ∧ qx ≤ 8589934592) (p3 : -8589934592 ≤ qy ∧ qy ≤ 8589934592) (hne : py ≠ qy)
    (hbb0 : 0 ≤ b0) (hbb0' : b0 ≤ 255) (hbb1 : 0 ≤ b1) (hbb1' : b1 ≤ 255) (ha : -2147483648 ≤ ac) (ha' : ac ≤ 2147483647) (hr : pointillistref15_Right.f 6 px py qx qy = some true) (w : World) :
    Calls Try.prog 7 #[.agg #[.int .i64 px, .int .i64 py, .int .i64 qx, .int .i64 qy], .agg #[.int .u8 b0, .int .u8 b1], .int .i32 ac] w fun e w' => e = .returned (.bool true) ∧ Below w.heap.size w w' := by
  have WK := Lib.hid (fun w => pointillistlaw15_wakes.calls true w wakes)
  have RT := Lib.hid (fun w => pointillistref15_Right.calls 6 px py qx qy true w hr)
  obtain ⟨rows, hrw⟩ : ∃ rows, b0 % 8 = rows := ⟨_, rfl⟩
  have hrt : b0.tmod 8 = rows := (Int.tmod_eq_emod_of_nonneg hbb0).trans hrw
  have hr0 : 0 ≤ rows := by omega
  have hr1 : rows ≤ 7 := by omega
  obtain ⟨v1, v1'⟩ := wid (x := b0) (by omega) (by omega)
  obtain ⟨v2, v2'⟩ := wid (x := b1) (by omega) (by omega)
  obtain ⟨v3, v3'⟩ := wid (x := rows * 65536) (by omega) (by omega)
  obtain ⟨v4, v4'⟩ := wid (x := px + ac) (by omega) (by omega)
  obtain ⟨v5, v5'⟩ := wid (x := qx + ac) (by omega) (by omega)
  obtain ⟨v6, v6'⟩ := wid (x := py + rows * 65536) (by omega) (by omega)
  obtain ⟨v7, v7'⟩ := wid (x := qy + rows * 65536) (by omega) (by omega)
  obtain ⟨v8, v8'⟩ := wid (x := b1 + rows) (by omega) (by omega)
  obtain ⟨v9, v9'⟩ := wid (x := ac) (by omega) (by omega)
  have hdA : Dom px py qx qy b1 := ⟨by unfold InE; omega, by unfold InE; omega, by unfold InE; omega, by unfold InE; omega, hne, hbb1, by omega⟩
  have hdB : Dom (px + ac) (py + rows * 65536) (qx + ac) (qy + rows * 65536) (b1 + rows) := ⟨by unfold InE; omega, by unfold InE; omega, by unfold InE; omega, by unfold InE; omega, by omega, by omega, by omega⟩
  go_enter Try.func7, Try.ntmps7
  go_wp2_with (first
    | (go_at_call 13; ((with_reducible refine (WK.out _).mono ?_); rintro e w1 ⟨rfl, hb1⟩; obtain ⟨hc1, hf1⟩ := Eq.bcell hb1; (try simp only [World.size_drew] at hc1 hf1); have hq1 := hb1.size; (try simp at hq1); have hz1_0 : w.heap.size < w1.heap.size := (by omega); have hz1_1 : w.heap.size + 1 < w1.heap.size := (by omega); clear hq1; have HB1 : Below w.heap.size w w1 := (by have z_hb1 := hb1.size; (try simp at z_hb1); (repeat' (first | (with_reducible exact Below.refl _ _) | (with_reducible refine Below.drew ?_) | (with_reducible refine below_drewN ?_ _) | ((with_reducible refine Below.setCell ?_ ?side_ _); case side_ => (first | (with_reducible exact Nat.le_refl _) | (with_reducible assumption) | omega | (simp; done) | (simp; omega))) | ((with_reducible refine Below.alloc ?_ ?side_ _); case side_ => (first | (with_reducible exact Nat.le_refl _) | (with_reducible assumption) | omega | (simp; done) | (simp; omega))) | ((with_reducible refine Below.trans ?_ (hb1.mono ?side_)); case side_ => (first | (with_reducible exact Nat.le_refl _) | (with_reducible assumption) | omega | (simp; done) | (simp; omega))))))))
    | (go_at_call 14; ((with_reducible refine (RT.out _).mono ?_); rintro e w2 ⟨rfl, hb2⟩; obtain ⟨hc2, hf2⟩ := Eq.bcell hb2; (try simp only [World.size_drew] at hc2 hf2); have hq2 := hb2.size; (try simp at hq2); have hz2_0 : w.heap.size < w2.heap.size := (by omega); have hz2_1 : w.heap.size + 1 < w2.heap.size := (by omega); clear hq2; have HB2 : Below w.heap.size w w2 := (by have z_hb1 := hb1.size; (try simp at z_hb1); have z_hb2 := hb2.size; (try simp at z_hb2); (repeat' (first | (with_reducible exact Below.refl _ _) | (with_reducible refine Below.drew ?_) | (with_reducible refine below_drewN ?_ _) | ((with_reducible refine Below.setCell ?_ ?side_ _); case side_ => (first | (with_reducible exact Nat.le_refl _) | (with_reducible assumption) | omega | (simp; done) | (simp; omega))) | ((with_reducible refine Below.alloc ?_ ?side_ _); case side_ => (first | (with_reducible exact Nat.le_refl _) | (with_reducible assumption) | omega | (simp; done) | (simp; omega))) | ((with_reducible refine Below.trans ?_ (hb1.mono ?side_)); case side_ => (first | (with_reducible exact Nat.le_refl _) | (with_reducible assumption) | omega | (simp; done) | (simp; omega))) | ((with_reducible refine Below.trans ?_ (hb2.mono ?side_)); case side_ => (first | (with_reducible exact Nat.le_refl _) | (with_reducible assumption) | omega | (simp; done) | (simp; omega)))))))))
  have j0 : w2.drew.cell? ⟨w.heap.size + 1, 0, none⟩ = some (.int .u8 b0) := (hc2 (w.heap.size + 1) 0 (by assumption)).trans ((hc1 (w.heap.size + 1) 0 (by simp)).trans (by simp [go_sem]))
  have j1 : w2.drew.cell? ⟨w.heap.size + 1, 1, none⟩ = some (.int .u8 b1) := (hc2 (w.heap.size + 1) 1 (by assumption)).trans ((hc1 (w.heap.size + 1) 1 (by simp)).trans (by simp [go_sem]))
  have q0 : w2.drew.cell? ⟨w.heap.size, 0, none⟩ = some (.int .i64 px) := (hc2 (w.heap.size) 0 (by assumption)).trans ((hc1 (w.heap.size) 0 (by simp; omega)).trans (by simp [go_sem]))
  have q1 : w2.drew.cell? ⟨w.heap.size, 1, none⟩ = some (.int .i64 py) := (hc2 (w.heap.size) 1 (by assumption)).trans ((hc1 (w.heap.size) 1 (by simp; omega)).trans (by simp [go_sem]))
  have q2 : w2.drew.cell? ⟨w.heap.size, 2, none⟩ = some (.int .i64 qx) := (hc2 (w.heap.size) 2 (by assumption)).trans ((hc1 (w.heap.size) 2 (by simp; omega)).trans (by simp [go_sem]))
  have q3 : w2.drew.cell? ⟨w.heap.size, 3, none⟩ = some (.int .i64 qy) := (hc2 (w.heap.size) 3 (by assumption)).trans ((hc1 (w.heap.size) 3 (by simp; omega)).trans (by simp [go_sem]))
  have hlo : w.heap.size + 1 < w2.drew.heap.size := hz2_1
  have hlo0 : w.heap.size < w2.drew.heap.size := hz2_0
  have HB : Below w.heap.size w w2.drew := HB2.drew
  clear hc1 hf1 hc2 hf2 hz1_0 hz1_1 hz2_0 hz2_1 hb1 hb2 HB1 HB2
  go_region_held3 (fun w' => w'.cell? ⟨w.heap.size + 1, 0, none⟩ = some (.int .u8 b0) ∧ w'.cell? ⟨w.heap.size + 1, 1, none⟩ = some (.int .u8 b1)) (exact ⟨j0, j1⟩) (fail)
  generalize w2.drew = w3 at *
  all_goals go_wp2
  obtain ⟨W0, hW0⟩ : ∃ W0, (w3.alloc (.cells #[.int .i64 ac, .int .i64 (rows * 65536)] 23)).alloc (.cells #[.int .i64 (px + ac), .int .i64 (py + rows * 65536), .int .i64 (qx + ac), .int .i64 (qy + rows * 65536)] 25) = W0 := ⟨_, rfl⟩
  have hb0 : Below w3.heap.size w3 W0 := by rw [← hW0]; exact ((Below.refl _ _).alloc (Nat.le_refl _) _).alloc (by simp) _
  have HB0 := HB.trans (hb0.mono HB.size)
  have hsz : W0.heap.size = w3.heap.size + 2 := by rw [← hW0]; simp
  have d0 : W0.cell? ⟨w3.heap.size, 0, none⟩ = some (.int .i64 ac) := by subst hW0; go_simp
  have d1 : W0.cell? ⟨w3.heap.size, 1, none⟩ = some (.int .i64 (rows * 65536)) := by subst hW0; go_simp
  have m0 : W0.cell? ⟨w3.heap.size + 1, 0, none⟩ = some (.int .i64 (px + ac)) := by subst hW0; go_simp
  have m1 : W0.cell? ⟨w3.heap.size + 1, 1, none⟩ = some (.int .i64 (py + rows * 65536)) := by subst hW0; go_simp
  have m2 : W0.cell? ⟨w3.heap.size + 1, 2, none⟩ = some (.int .i64 (qx + ac)) := by subst hW0; go_simp
  have m3 : W0.cell? ⟨w3.heap.size + 1, 3, none⟩ = some (.int .i64 (qy + rows * 65536)) := by subst hW0; go_simp
  have n0 := (hb0.cell (p := ⟨w.heap.size, 0, none⟩) hlo0).trans q0
  have n1 := (hb0.cell (p := ⟨w.heap.size, 1, none⟩) hlo0).trans q1
  have n2 := (hb0.cell (p := ⟨w.heap.size, 2, none⟩) hlo0).trans q2
  have n3 := (hb0.cell (p := ⟨w.heap.size, 3, none⟩) hlo0).trans q3
  have o1 : w.heap.size < W0.heap.size := by omega
  have o2 : w3.heap.size + 1 < W0.heap.size := by omega
  have TA := Lib.hid (fun w => told_all px py qx qy b1 hdA (by omega) w)
  have TB := Lib.hid (fun w => told_all (px + ac) (py + rows * 65536) (qx + ac) (qy + rows * 65536) (b1 + rows) hdB (by omega) w)
  have SP := Lib.hid (fun (i : Nat) (x : Rw) (h : (strips (px + ac) (py + rows * 65536) (qx + ac) (qy + rows * 65536) (b1 + rows))[i]? = some x) => moved_at (dx := ac) hdA hr0 h)
  rw [hW0]
  have t0 : W0.drew.cell? ⟨w.heap.size, 0, none⟩ = some (.int .i64 px) := n0
  have t1 : W0.drew.cell? ⟨w.heap.size, 1, none⟩ = some (.int .i64 py) := n1
  have t2 : W0.drew.cell? ⟨w.heap.size, 2, none⟩ = some (.int .i64 qx) := n2
  have t3 : W0.drew.cell? ⟨w.heap.size, 3, none⟩ = some (.int .i64 qy) := n3
  have t4 : W0.drew.cell? ⟨w3.heap.size + 1, 0, none⟩ = some (.int .i64 (px + ac)) := m0
  have t5 : W0.drew.cell? ⟨w3.heap.size + 1, 1, none⟩ = some (.int .i64 (py + rows * 65536)) := m1
  have t6 : W0.drew.cell? ⟨w3.heap.size + 1, 2, none⟩ = some (.int .i64 (qx + ac)) := m2
  have t7 : W0.drew.cell? ⟨w3.heap.size + 1, 3, none⟩ = some (.int .i64 (qy + rows * 65536)) := m3
  have t8 : w.heap.size < W0.drew.heap.size := o1
  have t9 : w3.heap.size + 1 < W0.drew.heap.size := o2
  clear hb0 q0 q1 q2 q3 j0 j1 hlo hlo0 hW0
  have SN := Lib.hid (fun (i : Nat) (x : Rw) (h : (strips px py qx qy b1)[i]? = some x) => strips_num hdA h)
  have CL := Lib.hid (cnt_len (dx := ac) hdA hr0)
  have CZ : cnt py qy b1 rows 0 = 0 := cnt_zero
  have hxl := strips_le hdA (by omega)
  have hyl := strips_le hdB (by omega)
  generalize cnt py qy b1 rows = c at *
  generalize strips px py qx qy b1 = xs at *
  generalize strips (px + ac) (py + rows * 65536) (qx + ac) (qy + rows * 65536) (b1 + rows) = ys at *
  go_region_held3 (fun w' => (w'.cell? ⟨w.heap.size, 0, none⟩ = some (.int .i64 px) ∧ w'.cell? ⟨w.heap.size, 1, none⟩ = some (.int .i64 py) ∧ w'.cell? ⟨w.heap.size, 2, none⟩ = some (.int .i64 qx) ∧ w'.cell? ⟨w.heap.size, 3, none⟩ = some (.int .i64 qy) ∧ w.heap.size < w'.heap.size) ∧ w'.cell? ⟨w3.heap.size + 1, 0, none⟩ = some (.int .i64 (px + ac)) ∧ w'.cell? ⟨w3.heap.size + 1, 1, none⟩ = some (.int .i64 (py + rows * 65536)) ∧ w'.cell? ⟨w3.heap.size + 1, 2, none⟩ = some (.int .i64 (qx + ac)) ∧ w'.cell? ⟨w3.heap.size + 1, 3, none⟩ = some (.int .i64 (qy + rows * 65536)) ∧ w3.heap.size + 1 < w'.heap.size)
    (first | (with_reducible exact sw_keep (by with_reducible assumption) hb5) | (with_reducible exact sw_keep (by with_reducible assumption) hb4) | exact ⟨⟨t0, t1, t2, t3, t8⟩, t4, t5, t6, t7, t9⟩)
    (first
      | (go_at_call 16; (with_reducible refine (TA.out _).mono ?_); rintro e w4 ⟨Aa, ca, rfl, hRa, hb4⟩)
      | (go_at_call 16; (with_reducible refine (TB.out _).mono ?_); rintro e w5 ⟨Ab, cb, rfl, hRb, hb5⟩))
  have e3 := (hb5.cell (p := ⟨w3.heap.size, 0, none⟩) (by have := hb4.size; show w3.heap.size < _; simp at this; omega)).trans ((hb4.cell (p := ⟨w3.heap.size, 0, none⟩) (by show w3.heap.size < W0.heap.size; omega)).trans (show W0.drew.cell? _ = _ from d0))
  have hz4 := hb4.size
  have hz5 := hb5.size
  have hR1 := hRa.below hb5
  have HB5 := (HB0.drew.trans (hb4.mono HB0.size)).trans (hb5.mono (Nat.le_trans HB0.size hz4))
  have hw5 : w3.heap.size + 2 ≤ w5.heap.size := by rw [World.size_drew] at hz4; omega
  clear t0 t1 t2 t3 t4 t5 t6 t7 t8 t9 n0 n1 n2 n3 m0 m1 m2 m3 d0 d1 o1 o2 TA TB v1 v1' v2 v2' v3 v3' v4 v4' v5 v5' v6 v6' v7 v7' v8 v8' WK RT hRa
  try (rename_i hHld; clear hHld)
  go_wp2
  go_loopw [13, 118] (fun n i wr => ∃ k : Nat, k ≤ ys.length ∧ i = .int .i64 (k : Int) ∧ n = .int .i64 (c k : Int) ∧ Below w5.heap.size w5 wr) (fun _ i _ => ys.length - (intOf i).toNat)
  case atStart => exact ⟨0, Nat.zero_le _, rfl, by rw [CZ]; rfl, Below.refl _ _⟩
  case round =>
    obtain ⟨k, hk, rfl, rfl, hbr⟩ := hrel
    have hzr := hbr.size
    by_cases hp : k < ys.length
    · have hi0 : (0 : Int) ≤ (k : Int) := by omega
      have hi1 : (k : Int) < (ys.length : Int) := by omega
      obtain ⟨bb, rfl, hbl0, hbl, y0, y1, y2, y3, y4⟩ := (hRb.below hbr) k hp
      obtain ⟨sp1, sp2⟩ := SP.out k ys[k] (by simp [hp])
      have g3 := (hbr.cell (p := ⟨w3.heap.size, 0, none⟩) (by show w3.heap.size < _; omega)).trans e3
      have hRx := hR1.below (hbr.mono hz5)
      have z1 : bb < wr.heap.size := by omega
      have z2 : w3.heap.size < wr.heap.size := by omega
      generalize ys[k] = x at *
      by_cases hlt : x.f0 < rows
      · have sp := Lib.hid (sp1 hlt)
        clear sp1 sp2 SP SN CL hRx hR1 hRb
        go_wp2
        go_roundw
        case rel => exact ⟨k + 1, by omega, by go_num, by rw [sp.out], hbr.alloc hzr _⟩
        case measure => simp [intOf]; omega
      · obtain ⟨sg, sc⟩ := sp2 (by omega)
        obtain ⟨hcx, hgx⟩ := List.getElem?_eq_some_iff.1 sg
        obtain ⟨s1, s2, s3⟩ := SN.out _ _ sg
        obtain ⟨ba, rfl, hal0, hal, x0, x1, x2, x3, x4⟩ := hRx (c k) hcx
        rw [hgx] at x0 x1 x2 x3 x4
        have SC := Lib.hid sc
        simp only [mvR] at x0 x1 x2 x3 x4 s1 s2 s3
        obtain ⟨f1, f1'⟩ := wid (x := x.f0 - rows) (by omega) (by omega)
        obtain ⟨f2, f2'⟩ := wid (x := x.f1.f0 - ac) (by omega) (by omega)
        obtain ⟨f3, f3'⟩ := wid (x := x.f1.f2 - ac) (by omega) (by omega)
        have z3 : ba < wr.heap.size := by omega
        have ci0 : (0 : Int) ≤ (c k : Int) := by omega
        have ci1 : (c k : Int) < (xs.length : Int) := by omega
        have ci2 : ¬ xs.length ≤ c k := Nat.not_le.2 hcx
        have ci3 : ¬ (xs.length : Int) ≤ (c k : Int) := by omega
        have ci4 : decide (xs.length ≤ c k) = false := decide_eq_false ci2
        clear sp1 sp2 SP SN CL hRx hR1 hRb sg hgx sc s1 s2 s3 hal0 hal hbl0 hbl
        go_wp2
        obtain ⟨W1, hW1⟩ : ∃ W1, wr.alloc (.cells #[.int .i64 (x.f0 - rows), .int .i64 (x.f1.f0 - ac), .int .i64 x.f1.f1, .int .i64 (x.f1.f2 - ac), .int .i64 x.f1.f3] 34) = W1 := ⟨_, rfl⟩
        have hB1 : Below wr.heap.size wr W1.drew := by rw [← hW1]; exact ((Below.refl _ _).alloc (Nat.le_refl _) _).drew
        have hB2 : Below w5.heap.size w5 W1.drew := hbr.trans (hB1.mono hzr)
        have p0 : W1.drew.cell? ⟨wr.heap.size, 0, none⟩ = some (.int .i64 (x.f0 - rows)) := by show W1.cell? _ = _; subst hW1; go_simp
        have p1 : W1.drew.cell? ⟨wr.heap.size, 1, none⟩ = some (.int .i64 (x.f1.f0 - ac)) := by show W1.cell? _ = _; subst hW1; go_simp
        have p2 : W1.drew.cell? ⟨wr.heap.size, 2, none⟩ = some (.int .i64 x.f1.f1) := by show W1.cell? _ = _; subst hW1; go_simp
        have p3 : W1.drew.cell? ⟨wr.heap.size, 3, none⟩ = some (.int .i64 (x.f1.f2 - ac)) := by show W1.cell? _ = _; subst hW1; go_simp
        have p4 : W1.drew.cell? ⟨wr.heap.size, 4, none⟩ = some (.int .i64 x.f1.f3) := by show W1.cell? _ = _; subst hW1; go_simp
        have r0 := (hB1.cell (p := ⟨ba, c k * 5, none⟩) z3).trans x0
        have r1 := (hB1.cell (p := ⟨ba, c k * 5 + 1, none⟩) z3).trans x1
        have r2 := (hB1.cell (p := ⟨ba, c k * 5 + 2, none⟩) z3).trans x2
        have r3 := (hB1.cell (p := ⟨ba, c k * 5 + 3, none⟩) z3).trans x3
        have r4 := (hB1.cell (p := ⟨ba, c k * 5 + 4, none⟩) z3).trans x4
        rw [hW1]
        have HB2 := Lib.hid hB2
        clear hW1 hB1 hB2 x0 x1 x2 x3 x4 y0 y1 y2 y3 y4 g3 z1 z2 z3
        go_region_held3 (fun w' => (w'.cell? ⟨wr.heap.size, 0, none⟩ = some (.int .i64 (x.f0 - rows)) ∧ w'.cell? ⟨wr.heap.size, 1, none⟩ = some (.int .i64 (x.f1.f0 - ac)) ∧ w'.cell? ⟨wr.heap.size, 2, none⟩ = some (.int .i64 x.f1.f1) ∧ w'.cell? ⟨wr.heap.size, 3, none⟩ = some (.int .i64 (x.f1.f2 - ac)) ∧ w'.cell? ⟨wr.heap.size, 4, none⟩ = some (.int .i64 x.f1.f3)) ∧ w'.cell? ⟨ba, c k * 5, none⟩ = some (.int .i64 (x.f0 - rows)) ∧ w'.cell? ⟨ba, c k * 5 + 1, none⟩ = some (.int .i64 (x.f1.f0 - ac)) ∧ w'.cell? ⟨ba, c k * 5 + 2, none⟩ = some (.int .i64 x.f1.f1) ∧ w'.cell? ⟨ba, c k * 5 + 3, none⟩ = some (.int .i64 (x.f1.f2 - ac)) ∧ w'.cell? ⟨ba, c k * 5 + 4, none⟩ = some (.int .i64 x.f1.f3))
          (exact ⟨⟨p0, p1, p2, p3, p4⟩, r0, r1, r2, r3, r4⟩) (fail)
        all_goals go_wp2
        all_goals go_roundw
        all_goals first
          | (show ys.length - _ < ys.length - _; simp [intOf]; omega)
          | exact ⟨k + 1, by omega, by go_num, by rw [SC.out]; go_num, HB2.out⟩
    · obtain rfl : k = ys.length := by omega
      have cl := CL.out
      clear SP SN CL hR1 hRb
      rw [cl]
      have cl2 : ((xs.length : Int) == (xs.length : Int)) = true := by simp
      go_wp2
      go_ret
      exact ⟨by simp, HB5.trans (hbr.mono HB5.size)⟩

set_option maxHeartbeats 8000000 in
theorem moves_out (px py qx qy b0 b1 ac : Int) (t : Bool) (hr : pointillistref15_Right.f 6 px py qx qy = some t) (hno : t = true → ¬ ((-8589934592 ≤ px ∧ px ≤ 8589934592) ∧ (-8589934592 ≤ py ∧ py ≤ 8589934592) ∧ (-8589934592 ≤ qx ∧ qx ≤ 8589934592) ∧ (-8589934592 ≤ qy ∧ qy ≤ 8589934592))) (w : World) :
    Calls Try.prog 7 #[.agg #[.int .i64 px, .int .i64 py, .int .i64 qx, .int .i64 qy], .agg #[.int .u8 b0, .int .u8 b1], .int .i32 ac] w fun e w' => e = .returned (.bool true) ∧ Below w.heap.size w w' := by
  have WK := Lib.hid (fun w => pointillistlaw15_wakes.calls true w wakes)
  have RT := Lib.hid (fun w => pointillistref15_Right.calls 6 px py qx qy t w hr)
  clear hr
  cases t
  · clear hno
    go_enter Try.func7, Try.ntmps7
    go_wp2_with (first
      | (go_at_call 13; ((with_reducible refine (WK.out _).mono ?_); rintro e w1 ⟨rfl, hb1⟩; obtain ⟨hc1, hf1⟩ := Eq.bcell hb1; (try simp only [World.size_drew] at hc1 hf1); have hq1 := hb1.size; (try simp at hq1); have hz1_0 : w.heap.size < w1.heap.size := (by omega); have hz1_1 : w.heap.size + 1 < w1.heap.size := (by omega); clear hq1; have HB1 : Below w.heap.size w w1 := (by have z_hb1 := hb1.size; (try simp at z_hb1); (repeat' (first | (with_reducible exact Below.refl _ _) | (with_reducible refine Below.drew ?_) | (with_reducible refine below_drewN ?_ _) | ((with_reducible refine Below.setCell ?_ ?side_ _); case side_ => (first | (with_reducible exact Nat.le_refl _) | (with_reducible assumption) | omega | (simp; done) | (simp; omega))) | ((with_reducible refine Below.alloc ?_ ?side_ _); case side_ => (first | (with_reducible exact Nat.le_refl _) | (with_reducible assumption) | omega | (simp; done) | (simp; omega))) | ((with_reducible refine Below.trans ?_ (hb1.mono ?side_)); case side_ => (first | (with_reducible exact Nat.le_refl _) | (with_reducible assumption) | omega | (simp; done) | (simp; omega))))))))
      | (go_at_call 14; ((with_reducible refine (RT.out _).mono ?_); rintro e w2 ⟨rfl, hb2⟩; obtain ⟨hc2, hf2⟩ := Eq.bcell hb2; (try simp only [World.size_drew] at hc2 hf2); have hq2 := hb2.size; (try simp at hq2); have hz2_0 : w.heap.size < w2.heap.size := (by omega); have hz2_1 : w.heap.size + 1 < w2.heap.size := (by omega); clear hq2; have HB2 : Below w.heap.size w w2 := (by have z_hb1 := hb1.size; (try simp at z_hb1); have z_hb2 := hb2.size; (try simp at z_hb2); (repeat' (first | (with_reducible exact Below.refl _ _) | (with_reducible refine Below.drew ?_) | (with_reducible refine below_drewN ?_ _) | ((with_reducible refine Below.setCell ?_ ?side_ _); case side_ => (first | (with_reducible exact Nat.le_refl _) | (with_reducible assumption) | omega | (simp; done) | (simp; omega))) | ((with_reducible refine Below.alloc ?_ ?side_ _); case side_ => (first | (with_reducible exact Nat.le_refl _) | (with_reducible assumption) | omega | (simp; done) | (simp; omega))) | ((with_reducible refine Below.trans ?_ (hb1.mono ?side_)); case side_ => (first | (with_reducible exact Nat.le_refl _) | (with_reducible assumption) | omega | (simp; done) | (simp; omega))) | ((with_reducible refine Below.trans ?_ (hb2.mono ?side_)); case side_ => (first | (with_reducible exact Nat.le_refl _) | (with_reducible assumption) | omega | (simp; done) | (simp; omega)))))))))
    all_goals
      go_ret
      exact ⟨rfl, HB2⟩
  · have HN := Lib.hid (hno rfl)
    clear hno
    go_enter Try.func7, Try.ntmps7
    go_upto_region 5 with (first
      | (go_at_call 13; ((with_reducible refine (WK.out _).mono ?_); rintro e w1 ⟨rfl, hb1⟩; obtain ⟨hc1, hf1⟩ := Eq.bcell hb1; (try simp only [World.size_drew] at hc1 hf1); have hq1 := hb1.size; (try simp at hq1); have hz1_0 : w.heap.size < w1.heap.size := (by omega); have hz1_1 : w.heap.size + 1 < w1.heap.size := (by omega); clear hq1; have HB1 : Below w.heap.size w w1 := (by have z_hb1 := hb1.size; (try simp at z_hb1); (repeat' (first | (with_reducible exact Below.refl _ _) | (with_reducible refine Below.drew ?_) | (with_reducible refine below_drewN ?_ _) | ((with_reducible refine Below.setCell ?_ ?side_ _); case side_ => (first | (with_reducible exact Nat.le_refl _) | (with_reducible assumption) | omega | (simp; done) | (simp; omega))) | ((with_reducible refine Below.alloc ?_ ?side_ _); case side_ => (first | (with_reducible exact Nat.le_refl _) | (with_reducible assumption) | omega | (simp; done) | (simp; omega))) | ((with_reducible refine Below.trans ?_ (hb1.mono ?side_)); case side_ => (first | (with_reducible exact Nat.le_refl _) | (with_reducible assumption) | omega | (simp; done) | (simp; omega))))))))
      | (go_at_call 14; ((with_reducible refine (RT.out _).mono ?_); rintro e w2 ⟨rfl, hb2⟩; obtain ⟨hc2, hf2⟩ := Eq.bcell hb2; (try simp only [World.size_drew] at hc2 hf2); have hq2 := hb2.size; (try simp at hq2); have hz2_0 : w.heap.size < w2.heap.size := (by omega); have hz2_1 : w.heap.size + 1 < w2.heap.size := (by omega); clear hq2; have HB2 : Below w.heap.size w w2 := (by have z_hb1 := hb1.size; (try simp at z_hb1); have z_hb2 := hb2.size; (try simp at z_hb2); (repeat' (first | (with_reducible exact Below.refl _ _) | (with_reducible refine Below.drew ?_) | (with_reducible refine below_drewN ?_ _) | ((with_reducible refine Below.setCell ?_ ?side_ _); case side_ => (first | (with_reducible exact Nat.le_refl _) | (with_reducible assumption) | omega | (simp; done) | (simp; omega))) | ((with_reducible refine Below.alloc ?_ ?side_ _); case side_ => (first | (with_reducible exact Nat.le_refl _) | (with_reducible assumption) | omega | (simp; done) | (simp; omega))) | ((with_reducible refine Below.trans ?_ (hb1.mono ?side_)); case side_ => (first | (with_reducible exact Nat.le_refl _) | (with_reducible assumption) | omega | (simp; done) | (simp; omega))) | ((with_reducible refine Below.trans ?_ (hb2.mono ?side_)); case side_ => (first | (with_reducible exact Nat.le_refl _) | (with_reducible assumption) | omega | (simp; done) | (simp; omega)))))))))
    all_goals first
      | (exfalso; have := HN.out; omega)
      | (go_ret; exact ⟨by simp, HB2⟩)
theorem moves_calls (px py qx qy b0 b1 ac : Int) (hbb0 : 0 ≤ b0) (hbb0' : b0 ≤ 255) (hbb1 : 0 ≤ b1) (hbb1' : b1 ≤ 255) (ha : -2147483648 ≤ ac) (ha' : ac ≤ 2147483647) (w : World) :
    Calls Try.prog 7 #[.agg #[.int .i64 px, .int .i64 py, .int .i64 qx, .int .i64 qy], .agg #[.int .u8 b0, .int .u8 b1], .int .i32 ac] w fun e w' => e = .returned (.bool true) ∧ Below w.heap.size w w' := by
  obtain ⟨t, ht, hi⟩ := right_f px py qx qy (k := 6) (by omega)
  by_cases hin : t = true ∧ (-8589934592 ≤ px ∧ px ≤ 8589934592) ∧ (-8589934592 ≤ py ∧ py ≤ 8589934592) ∧ (-8589934592 ≤ qx ∧ qx ≤ 8589934592) ∧ (-8589934592 ≤ qy ∧ qy ≤ 8589934592)
  · obtain ⟨rfl, p0, p1, p2, p3⟩ := hin
    exact moves_go px py qx qy b0 b1 ac p0 p1 p2 p3 (hi.1 rfl).2 hbb0 hbb0' hbb1 hbb1' ha ha' ht w
  · exact moves_out px py qx qy b0 b1 ac t ht (fun h1 h2 => hin ⟨h1, h2⟩) w
end Go.Proofs.Ytjdpmaachehpnaa.Strip
