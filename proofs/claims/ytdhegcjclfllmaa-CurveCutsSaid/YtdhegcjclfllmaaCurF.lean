/- Package curve's Flat, walked. -/
import Derived.Test.YtdhegcjclfllmaaPCx0
import Derived.Test.YtdhegcjclfllmaaCurQ
import Derived.Test.YtdhegcjclfllmaaCurT
import Derived.Test.YtdhegcjclfllmaaCurR
import Derived.Test.YtdhegcjclfllmaaWideN
import Derived.Test.YtdhegcjclfllmaaProg
import Derived.Deep.RegionHeld3
import Derived.Deep.DrawnRows
import Derived.WalkKit
import Derived.OwnWalk
import Derived.Handy
import Derived.KernelRfl
import Derived.Below
import Derived.WideLaws
import Derived.Lib.Hide
namespace Go.Proofs.Ytdhegcjclfllmaa.PC
open Go Go.RowKit
set_option maxRecDepth 100000
set_option linter.unusedVariables false
set_option linter.unusedSimpArgs false
attribute [local go_sem ↓] Go.wp_at_zero Go.wp_at_succ
attribute [local go_sem ↓] st8_curve st8_points
attribute [local go_sem] run_curve run_points
attribute [local go_sem] put8_size put8_far put8_row put8_frozen row8_drew row8_at row8_old row8_set row8_frozen put8_c0 put8_c1 put8_c2 put8_c3 put8_c4 put8_c5 put8_c6 put8_c7
local instance decF (a : Int) : Decidable (R40 a) := by unfold R40; infer_instance
theorem sf_keep {w W w1 : World} {q : Nat} {a b c d e f g h : Int} (hh : W.cell? ⟨q, 0, none⟩ = some (.int .i64 a) ∧ W.cell? ⟨q, 1, none⟩ = some (.int .i64 b) ∧ W.cell? ⟨q, 2, none⟩ = some (.int .i64 c) ∧ W.cell? ⟨q, 3, none⟩ = some (.int .i64 d) ∧ W.cell? ⟨q, 4, none⟩ = some (.int .i64 e) ∧ W.cell? ⟨q, 5, none⟩ = some (.int .i64 f) ∧ W.cell? ⟨q, 6, none⟩ = some (.int .i64 g) ∧ W.cell? ⟨q, 7, none⟩ = some (.int .i64 h) ∧ q < W.heap.size ∧ Below w.heap.size w W) (hb' : Below W.heap.size W w1) : w1.cell? ⟨q, 0, none⟩ = some (.int .i64 a) ∧ w1.cell? ⟨q, 1, none⟩ = some (.int .i64 b) ∧ w1.cell? ⟨q, 2, none⟩ = some (.int .i64 c) ∧ w1.cell? ⟨q, 3, none⟩ = some (.int .i64 d) ∧ w1.cell? ⟨q, 4, none⟩ = some (.int .i64 e) ∧ w1.cell? ⟨q, 5, none⟩ = some (.int .i64 f) ∧ w1.cell? ⟨q, 6, none⟩ = some (.int .i64 g) ∧ w1.cell? ⟨q, 7, none⟩ = some (.int .i64 h) ∧ q < w1.heap.size ∧ Below w.heap.size w w1 := by
  obtain ⟨hc', hf'⟩ := bcell hb'
  have hs := hh.2.2.2.2.2.2.2.2.1
  exact ⟨(hc' q 0 hs).trans hh.1, (hc' q 1 hs).trans hh.2.1, (hc' q 2 hs).trans hh.2.2.1, (hc' q 3 hs).trans hh.2.2.2.1, (hc' q 4 hs).trans hh.2.2.2.2.1, (hc' q 5 hs).trans hh.2.2.2.2.2.1, (hc' q 6 hs).trans hh.2.2.2.2.2.2.1, (hc' q 7 hs).trans hh.2.2.2.2.2.2.2.1, Nat.lt_of_lt_of_le hs hb'.size, hh.2.2.2.2.2.2.2.2.2.trans (hb'.mono hh.2.2.2.2.2.2.2.2.2.size)⟩
theorem sf_alloc {w W : World} {q : Nat} {a b c d e f g h : Int} (hh : W.cell? ⟨q, 0, none⟩ = some (.int .i64 a) ∧ W.cell? ⟨q, 1, none⟩ = some (.int .i64 b) ∧ W.cell? ⟨q, 2, none⟩ = some (.int .i64 c) ∧ W.cell? ⟨q, 3, none⟩ = some (.int .i64 d) ∧ W.cell? ⟨q, 4, none⟩ = some (.int .i64 e) ∧ W.cell? ⟨q, 5, none⟩ = some (.int .i64 f) ∧ W.cell? ⟨q, 6, none⟩ = some (.int .i64 g) ∧ W.cell? ⟨q, 7, none⟩ = some (.int .i64 h) ∧ q < W.heap.size ∧ Below w.heap.size w W) (o : Obj) : (W.alloc o).cell? ⟨q, 0, none⟩ = some (.int .i64 a) ∧ (W.alloc o).cell? ⟨q, 1, none⟩ = some (.int .i64 b) ∧ (W.alloc o).cell? ⟨q, 2, none⟩ = some (.int .i64 c) ∧ (W.alloc o).cell? ⟨q, 3, none⟩ = some (.int .i64 d) ∧ (W.alloc o).cell? ⟨q, 4, none⟩ = some (.int .i64 e) ∧ (W.alloc o).cell? ⟨q, 5, none⟩ = some (.int .i64 f) ∧ (W.alloc o).cell? ⟨q, 6, none⟩ = some (.int .i64 g) ∧ (W.alloc o).cell? ⟨q, 7, none⟩ = some (.int .i64 h) ∧ q < (W.alloc o).heap.size ∧ Below w.heap.size w (W.alloc o) := sf_keep hh ((Below.refl _ _).alloc (Nat.le_refl _) o)
theorem sf_drew {w W : World} {q : Nat} {a b c d e f g h : Int} (hh : W.cell? ⟨q, 0, none⟩ = some (.int .i64 a) ∧ W.cell? ⟨q, 1, none⟩ = some (.int .i64 b) ∧ W.cell? ⟨q, 2, none⟩ = some (.int .i64 c) ∧ W.cell? ⟨q, 3, none⟩ = some (.int .i64 d) ∧ W.cell? ⟨q, 4, none⟩ = some (.int .i64 e) ∧ W.cell? ⟨q, 5, none⟩ = some (.int .i64 f) ∧ W.cell? ⟨q, 6, none⟩ = some (.int .i64 g) ∧ W.cell? ⟨q, 7, none⟩ = some (.int .i64 h) ∧ q < W.heap.size ∧ Below w.heap.size w W) : W.drew.cell? ⟨q, 0, none⟩ = some (.int .i64 a) ∧ W.drew.cell? ⟨q, 1, none⟩ = some (.int .i64 b) ∧ W.drew.cell? ⟨q, 2, none⟩ = some (.int .i64 c) ∧ W.drew.cell? ⟨q, 3, none⟩ = some (.int .i64 d) ∧ W.drew.cell? ⟨q, 4, none⟩ = some (.int .i64 e) ∧ W.drew.cell? ⟨q, 5, none⟩ = some (.int .i64 f) ∧ W.drew.cell? ⟨q, 6, none⟩ = some (.int .i64 g) ∧ W.drew.cell? ⟨q, 7, none⟩ = some (.int .i64 h) ∧ q < W.drew.heap.size ∧ Below w.heap.size w W.drew := ⟨hh.1, hh.2.1, hh.2.2.1, hh.2.2.2.1, hh.2.2.2.2.1, hh.2.2.2.2.2.1, hh.2.2.2.2.2.2.1, hh.2.2.2.2.2.2.2.1, hh.2.2.2.2.2.2.2.2.1, hh.2.2.2.2.2.2.2.2.2.drew⟩
theorem sf_bel {w W : World} {q : Nat} {a b c d e f g h : Int} (hh : W.cell? ⟨q, 0, none⟩ = some (.int .i64 a) ∧ W.cell? ⟨q, 1, none⟩ = some (.int .i64 b) ∧ W.cell? ⟨q, 2, none⟩ = some (.int .i64 c) ∧ W.cell? ⟨q, 3, none⟩ = some (.int .i64 d) ∧ W.cell? ⟨q, 4, none⟩ = some (.int .i64 e) ∧ W.cell? ⟨q, 5, none⟩ = some (.int .i64 f) ∧ W.cell? ⟨q, 6, none⟩ = some (.int .i64 g) ∧ W.cell? ⟨q, 7, none⟩ = some (.int .i64 h) ∧ q < W.heap.size ∧ Below w.heap.size w W) : Below w.heap.size w W := hh.2.2.2.2.2.2.2.2.2
theorem sf_set {w W : World} {q : Nat} {a b c d e f g h : Int} (hh : W.cell? ⟨q, 0, none⟩ = some (.int .i64 a) ∧ W.cell? ⟨q, 1, none⟩ = some (.int .i64 b) ∧ W.cell? ⟨q, 2, none⟩ = some (.int .i64 c) ∧ W.cell? ⟨q, 3, none⟩ = some (.int .i64 d) ∧ W.cell? ⟨q, 4, none⟩ = some (.int .i64 e) ∧ W.cell? ⟨q, 5, none⟩ = some (.int .i64 f) ∧ W.cell? ⟨q, 6, none⟩ = some (.int .i64 g) ∧ W.cell? ⟨q, 7, none⟩ = some (.int .i64 h) ∧ q < W.heap.size ∧ Below w.heap.size w W) {n : Nat} (hn : q < n) (hw : w.heap.size ≤ n) (k : Nat) (v : Value) : (W.setCell ⟨n, k, none⟩ v).cell? ⟨q, 0, none⟩ = some (.int .i64 a) ∧ (W.setCell ⟨n, k, none⟩ v).cell? ⟨q, 1, none⟩ = some (.int .i64 b) ∧ (W.setCell ⟨n, k, none⟩ v).cell? ⟨q, 2, none⟩ = some (.int .i64 c) ∧ (W.setCell ⟨n, k, none⟩ v).cell? ⟨q, 3, none⟩ = some (.int .i64 d) ∧ (W.setCell ⟨n, k, none⟩ v).cell? ⟨q, 4, none⟩ = some (.int .i64 e) ∧ (W.setCell ⟨n, k, none⟩ v).cell? ⟨q, 5, none⟩ = some (.int .i64 f) ∧ (W.setCell ⟨n, k, none⟩ v).cell? ⟨q, 6, none⟩ = some (.int .i64 g) ∧ (W.setCell ⟨n, k, none⟩ v).cell? ⟨q, 7, none⟩ = some (.int .i64 h) ∧ q < (W.setCell ⟨n, k, none⟩ v).heap.size ∧ Below w.heap.size w (W.setCell ⟨n, k, none⟩ v) := ⟨(World.cell?_setCell_other _ _ _ _ (by intro e; injection e with e1; omega)).trans hh.1, (World.cell?_setCell_other _ _ _ _ (by intro e; injection e with e1; omega)).trans hh.2.1, (World.cell?_setCell_other _ _ _ _ (by intro e; injection e with e1; omega)).trans hh.2.2.1, (World.cell?_setCell_other _ _ _ _ (by intro e; injection e with e1; omega)).trans hh.2.2.2.1, (World.cell?_setCell_other _ _ _ _ (by intro e; injection e with e1; omega)).trans hh.2.2.2.2.1, (World.cell?_setCell_other _ _ _ _ (by intro e; injection e with e1; omega)).trans hh.2.2.2.2.2.1, (World.cell?_setCell_other _ _ _ _ (by intro e; injection e with e1; omega)).trans hh.2.2.2.2.2.2.1, (World.cell?_setCell_other _ _ _ _ (by intro e; injection e with e1; omega)).trans hh.2.2.2.2.2.2.2.1, (by simpa using hh.2.2.2.2.2.2.2.2.1), hh.2.2.2.2.2.2.2.2.2.setCell hw _⟩
theorem quad_row {w : World} {g : Nat} {a b c d : Int} (hg : g < w.heap.size) (ha : -9223372036854775808 ≤ a ∧ a ≤ 9223372036854775807) (hb : -9223372036854775808 ≤ b ∧ b ≤ 9223372036854775807) (hc : -9223372036854775808 ≤ c ∧ c ≤ 9223372036854775807) (hd : -9223372036854775808 ≤ d ∧ d ≤ 9223372036854775807) (h0 : w.cell? ⟨g, 0, none⟩ = some (.int .i64 a)) (h1 : w.cell? ⟨g, 1, none⟩ = some (.int .i64 b)) (h2 : w.cell? ⟨g, 2, none⟩ = some (.int .i64 c)) (h3 : w.cell? ⟨g, 3, none⟩ = some (.int .i64 d)) : Open.IntRow w .i64 (some ⟨g, 0, none⟩) [a, b, c, d] := by
  refine ⟨fun i hi => ?_, fun z hz => ?_⟩
  · refine ⟨g, 0, rfl, hg, ?_⟩
    match i, hi with
    | 0, _ => simpa using h0
    | 1, _ => simpa using h1
    | 2, _ => simpa using h2
    | 3, _ => simpa using h3
  · simp at hz
    rcases hz with rfl | rfl | rfl | rfl
    · exact i64_wf ha
    · exact i64_wf hb
    · exact i64_wf hc
    · exact i64_wf hd
def curve_Flat.f (a b c d e f g h : Int) : Option Bool := if R40 a ∧ R40 b ∧ R40 c ∧ R40 d ∧ R40 e ∧ R40 f ∧ R40 g ∧ R40 h then some ([a - 2 * c + e, b - 2 * d + f, c - 2 * e + g, d - 2 * f + h].all (Wide.inB 513)) else none
set_option maxHeartbeats 16000000 in
theorem curve_Flat.calls (a b c d e f g h : Int) (r : Bool) (w : World) (hf : curve_Flat.f a b c d e f g h = some r) :
    Calls Try.prog 21 #[.agg #[.int .i64 a, .int .i64 b, .int .i64 c, .int .i64 d, .int .i64 e, .int .i64 f, .int .i64 g, .int .i64 h]] w fun e' w' => e' = .returned (.bool r) ∧ Below w.heap.size w w' := by
  unfold curve_Flat.f at hf
  split at hf
  case isFalse => cases hf
  rename_i hr
  obtain ⟨ha, hb, hc, hd, he, hf', hg, hh⟩ := hr
  injection hf with hf
  subst hf
  have B1 := Lib.hid (fun G_ W_ i1 i4 i5 i6 i7 i8 i9 => bothbent_calls G_ 0 4 a b c d e f ⟨ha, hb, hc, hd, he, hf'⟩ W_ i1 (by decide) i4 i5 i6 i7 i8 i9)
  have B2 := Lib.hid (fun G_ W_ i1 i4 i5 i6 i7 i8 i9 => bothbent_calls G_ 2 3 c d e f g h ⟨hc, hd, he, hf', hg, hh⟩ W_ i1 (by decide) i4 i5 i6 i7 i8 i9)
  unfold R40 at ha hb hc hd he hf' hg hh
  have i0 : -9223372036854775808 ≤ a - 2 * c + e ∧ a - 2 * c + e ≤ 9223372036854775807 := by omega
  have i1 : -9223372036854775808 ≤ b - 2 * d + f ∧ b - 2 * d + f ≤ 9223372036854775807 := by omega
  have i2 : -9223372036854775808 ≤ c - 2 * e + g ∧ c - 2 * e + g ≤ 9223372036854775807 := by omega
  have i3 : -9223372036854775808 ≤ d - 2 * f + h ∧ d - 2 * f + h ≤ 9223372036854775807 := by omega
  generalize a - 2 * c + e = n0 at *
  generalize b - 2 * d + f = n1 at *
  generalize c - 2 * e + g = n2 at *
  generalize d - 2 * f + h = n3 at *
  generalize hq : [n0, n1, n2, n3].all (Wide.inB 513) = r
  have W1 := Lib.hid (fun g0 w h0 => Wide.within_calls 513 (some ⟨g0, 0, none⟩) [n0, n1, n2, n3] 4 (by omega) (by omega) (by simp [maxLen]) w h0)
  simp only [hq, List.length_cons, List.length_nil, Nat.zero_add, Nat.reduceAdd] at W1
  clear hq ha hb hc hd he hf' hg hh
  go_enter Try.func21, Try.ntmps21
  go_wp2_with (go_at_call 48; ((with_reducible refine (of_calls a b c d e f g h _).mono ?_); rintro e' w3 ⟨rfl, hb3⟩))
  have hS : Below w.heap.size w w3 := by have z_hb3 := hb3.size; (try simp at z_hb3); (repeat' (first | (with_reducible exact Below.refl _ _) | (with_reducible refine Below.drew ?_) | (with_reducible refine below_drewN ?_ _) | ((with_reducible refine Below.setCell ?_ ?side_ _); case side_ => (first | (with_reducible exact Nat.le_refl _) | (with_reducible assumption) | omega | (simp; done) | (simp; omega))) | ((with_reducible refine Below.alloc ?_ ?side_ _); case side_ => (first | (with_reducible exact Nat.le_refl _) | (with_reducible assumption) | omega | (simp; done) | (simp; omega))) | ((with_reducible refine Below.trans ?_ (hb3.mono ?side_)); case side_ => (first | (with_reducible exact Nat.le_refl _) | (with_reducible assumption) | omega | (simp; done) | (simp; omega)))))
  have hn := row8_new w3 (.int .i64 0) (.int .i64 0) (.int .i64 0) (.int .i64 0) (.int .i64 0) (.int .i64 0) (.int .i64 0) (.int .i64 0) 56
  have S1 : (put8 (w3.alloc (.cells #[.int .i64 0, .int .i64 0, .int .i64 0, .int .i64 0, .int .i64 0, .int .i64 0, .int .i64 0, .int .i64 0] 56)) w3.heap.size a b c d e f g h).cell? ⟨w3.heap.size, 0, none⟩ = some (.int .i64 a) ∧ (put8 (w3.alloc (.cells #[.int .i64 0, .int .i64 0, .int .i64 0, .int .i64 0, .int .i64 0, .int .i64 0, .int .i64 0, .int .i64 0] 56)) w3.heap.size a b c d e f g h).cell? ⟨w3.heap.size, 1, none⟩ = some (.int .i64 b) ∧ (put8 (w3.alloc (.cells #[.int .i64 0, .int .i64 0, .int .i64 0, .int .i64 0, .int .i64 0, .int .i64 0, .int .i64 0, .int .i64 0] 56)) w3.heap.size a b c d e f g h).cell? ⟨w3.heap.size, 2, none⟩ = some (.int .i64 c) ∧ (put8 (w3.alloc (.cells #[.int .i64 0, .int .i64 0, .int .i64 0, .int .i64 0, .int .i64 0, .int .i64 0, .int .i64 0, .int .i64 0] 56)) w3.heap.size a b c d e f g h).cell? ⟨w3.heap.size, 3, none⟩ = some (.int .i64 d) ∧ (put8 (w3.alloc (.cells #[.int .i64 0, .int .i64 0, .int .i64 0, .int .i64 0, .int .i64 0, .int .i64 0, .int .i64 0, .int .i64 0] 56)) w3.heap.size a b c d e f g h).cell? ⟨w3.heap.size, 4, none⟩ = some (.int .i64 e) ∧ (put8 (w3.alloc (.cells #[.int .i64 0, .int .i64 0, .int .i64 0, .int .i64 0, .int .i64 0, .int .i64 0, .int .i64 0, .int .i64 0] 56)) w3.heap.size a b c d e f g h).cell? ⟨w3.heap.size, 5, none⟩ = some (.int .i64 f) ∧ (put8 (w3.alloc (.cells #[.int .i64 0, .int .i64 0, .int .i64 0, .int .i64 0, .int .i64 0, .int .i64 0, .int .i64 0, .int .i64 0] 56)) w3.heap.size a b c d e f g h).cell? ⟨w3.heap.size, 6, none⟩ = some (.int .i64 g) ∧ (put8 (w3.alloc (.cells #[.int .i64 0, .int .i64 0, .int .i64 0, .int .i64 0, .int .i64 0, .int .i64 0, .int .i64 0, .int .i64 0] 56)) w3.heap.size a b c d e f g h).cell? ⟨w3.heap.size, 7, none⟩ = some (.int .i64 h) ∧ w3.heap.size < (put8 (w3.alloc (.cells #[.int .i64 0, .int .i64 0, .int .i64 0, .int .i64 0, .int .i64 0, .int .i64 0, .int .i64 0, .int .i64 0] 56)) w3.heap.size a b c d e f g h).heap.size ∧ Below w.heap.size w (put8 (w3.alloc (.cells #[.int .i64 0, .int .i64 0, .int .i64 0, .int .i64 0, .int .i64 0, .int .i64 0, .int .i64 0, .int .i64 0] 56)) w3.heap.size a b c d e f g h) := ⟨put8_c0 hn, put8_c1 hn, put8_c2 hn, put8_c3 hn, put8_c4 hn, put8_c5 hn, put8_c6 hn, put8_c7 hn, by rw [put8_size]; simp, put8_below (hS.alloc hS.size _) hS.size⟩
  have hqq := hS.size
  generalize put8 (w3.alloc (.cells #[.int .i64 0, .int .i64 0, .int .i64 0, .int .i64 0, .int .i64 0, .int .i64 0, .int .i64 0, .int .i64 0] 56)) w3.heap.size a b c d e f g h = u1 at S1 ⊢
  generalize w3.heap.size = q at S1 hqq ⊢
  clear hn hS hb3 w3
  obtain ⟨k0, k1, k2, k3, k4, k5, k6, k7, hqs, hbel⟩ := S1
  have kk0 : u1.heap.size < u1.heap.size + 1 + 1 := by omega
  refine Code.wp_mono (Q := (fun ex ac w' => ex = Exit.normal ∧ ∃ b5 b6, ac = (⟨#[.agg #[.int .i64 a, .int .i64 b, .int .i64 c, .int .i64 d, .int .i64 e, .int .i64 f, .int .i64 g, .int .i64 h], .pointer (some ⟨w.heap.size, 0, none⟩), .bool false, .pointer (some ⟨q, 0, none⟩), (.func (.func 53) #[] #[]), .pointer (some ⟨b5, 0, none⟩), .pointer (some ⟨b6, 0, none⟩), .agg #[.int .i64 a, .int .i64 b, .int .i64 c, .int .i64 d, .int .i64 e, .int .i64 f, .int .i64 g, .int .i64 h], .agg #[.int .i64 a, .int .i64 b, .int .i64 c, .int .i64 d, .int .i64 e, .int .i64 f, .int .i64 g, .int .i64 h], .slice (some ⟨q, 0, none⟩) 3 4, (.func (.func 53) #[] #[]), .agg #[.int .i64 n0, .int .i64 n1], .slice (some ⟨q, 2, none⟩) 3 3, (.func (.func 53) #[] #[]), .agg #[.int .i64 n2, .int .i64 n3], undef, undef, undef, undef, undef, undef, undef, undef, undef, undef], []⟩ : Act) ∧ w'.cell? ⟨b5, 0, none⟩ = some (.int .i64 n0) ∧ w'.cell? ⟨b5, 1, none⟩ = some (.int .i64 n1) ∧ w'.cell? ⟨b6, 0, none⟩ = some (.int .i64 n2) ∧ w'.cell? ⟨b6, 1, none⟩ = some (.int .i64 n3) ∧ Below w.heap.size w w')) ?_ ?_
  rotate_left
  · go_region_held3 (fun w' => w'.cell? ⟨q, 0, none⟩ = some (.int .i64 a) ∧ w'.cell? ⟨q, 1, none⟩ = some (.int .i64 b) ∧ w'.cell? ⟨q, 2, none⟩ = some (.int .i64 c) ∧ w'.cell? ⟨q, 3, none⟩ = some (.int .i64 d) ∧ w'.cell? ⟨q, 4, none⟩ = some (.int .i64 e) ∧ w'.cell? ⟨q, 5, none⟩ = some (.int .i64 f) ∧ w'.cell? ⟨q, 6, none⟩ = some (.int .i64 g) ∧ w'.cell? ⟨q, 7, none⟩ = some (.int .i64 h) ∧ q < w'.heap.size ∧ Below w.heap.size w w') ((repeat' first | (with_reducible assumption) | (with_reducible refine sf_drew ?_) | (with_reducible refine sf_alloc ?_ _) | (with_reducible refine sf_set ?_ ?_ ?_ _ _) | (with_reducible refine sf_keep ?_ hb2) | (with_reducible refine sf_keep ?_ hb1) | exact ⟨k0, k1, k2, k3, k4, k5, k6, k7, hqs, hbel⟩ | omega))
      (first
      | (go_at_call 46; (fail_if_success (have := w1)); ((with_reducible refine (B1.out q _ (by first | assumption | (simp; omega)) (by simp [go_sem, *]) (by simp [go_sem, *]) (by simp [go_sem, *]) (by simp [go_sem, *]) (by simp [go_sem, *]) (by simp [go_sem, *])).mono ?_); rintro e' w1 ⟨rfl, hb1⟩; obtain ⟨hc1, hf1⟩ := bcell hb1; have hs1 := hb1.size; (try simp only [World.size_alloc, World.size_drew, World.size_setCell] at hs1); have kk1 : w1.heap.size < w1.heap.size + 1 + 1 := Nat.lt_succ_of_lt (Nat.lt_succ_self _); (try have lu1100 : u1.heap.size < w1.heap.size := (by omega)); (try have lu1101 : u1.heap.size < w1.heap.size + 1 := (by omega)); (try have lu1110 : u1.heap.size + 1 < w1.heap.size := (by omega)); (try have lu1111 : u1.heap.size + 1 < w1.heap.size + 1 := (by omega))))
      | (go_at_call 46; ((with_reducible refine (B2.out q _ (by first | assumption | omega | (simp; omega)) (by simp [go_sem, *]) (by simp [go_sem, *]) (by simp [go_sem, *]) (by simp [go_sem, *]) (by simp [go_sem, *]) (by simp [go_sem, *])).mono ?_); rintro e' w2 ⟨rfl, hb2⟩; obtain ⟨hc2, hf2⟩ := bcell hb2; have hs2 := hb2.size; (try simp only [World.size_alloc, World.size_drew, World.size_setCell] at hs2); have kk2 : w2.heap.size < w2.heap.size + 1 + 1 := Nat.lt_succ_of_lt (Nat.lt_succ_self _); (try have lu1200 : u1.heap.size < w2.heap.size := (by omega)); (try have lu1201 : u1.heap.size < w2.heap.size + 1 := (by omega)); (try have lu1210 : u1.heap.size + 1 < w2.heap.size := (by omega)); (try have lu1211 : u1.heap.size + 1 < w2.heap.size + 1 := (by omega)); (try have lw1200 : w1.heap.size < w2.heap.size := (by omega)); (try have lw1201 : w1.heap.size < w2.heap.size + 1 := (by omega)); (try have lw1210 : w1.heap.size + 1 < w2.heap.size := (by omega)); (try have lw1211 : w1.heap.size + 1 < w2.heap.size + 1 := (by omega)))))
    all_goals
      refine ⟨rfl, _, _, rfl, ?_, ?_, ?_, ?_, sf_bel (by assumption)⟩
      all_goals (simp [go_sem, *]; done)
  rintro ex ac u2 ⟨rfl, b5, b6, rfl, k0, k1, k2, k3, hB⟩
  go_wp2_with (go_at_call 49; ((with_reducible refine (W1.out _ _ (quad_row (by simp) i0 i1 i2 i3 (by simp [go_sem]) (by simp [go_sem]) (by simp [go_sem]) (by simp [go_sem]))).mono ?_); rintro e' w2 ⟨rfl, rfl⟩))
  refine bodyPost_ret (v := .bool r) (by simp [results, Try.results21, go_sem]) rfl ⟨rfl, ?_⟩
  exact hB.alloc hB.size _
end Go.Proofs.Ytdhegcjclfllmaa.PC
