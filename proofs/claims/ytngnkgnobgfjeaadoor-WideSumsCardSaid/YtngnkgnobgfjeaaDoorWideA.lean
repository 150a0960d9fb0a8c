/- The walks of package wide's numbers of 128 bits: of, add, minus, below, size: each answers the words of what its name says. For every number in range. -/
import Derived.Test.YtngnkgnobgfjeaaDoorBig
import Derived.Test.YtngnkgnobgfjeaaDoorProg
import Derived.Below
import Derived.Deep.Draws
import Derived.OwnWalk
import Derived.Tactics
import Derived.WalkKit
import Derived.KernelRfl
import Derived.RowKit3
import Derived.Deep.QuietTactic
import Derived.BigQuiet
import Derived.WideLaws
import Derived.OpenShut
import Derived.Lib.Hide
import Derived.Laws.Externs
import Derived.Laws.Unary
namespace Go.Proofs.YtngnkgnobgfjeaaDoor.Wide
open Go Go.RowKit
set_option maxRecDepth 100000
set_option linter.unusedVariables false
set_option linter.unusedSimpArgs false

theorem below_a1 (w : World) (o : Obj) : Below w.heap.size w (w.alloc o) := (Below.refl _ _).alloc (Nat.le_refl _) _
theorem below_more {w w1 w2 : World} (a : Below w.heap.size w w1) (b : Below w1.heap.size w1 w2) : Below w.heap.size w w2 := a.trans (b.mono a.size)

theorem add64_law (x y c : Int) (hx : 0 ≤ x) (hy : 0 ≤ y) (hc0 : 0 ≤ c) (hc : c ≤ 1) (w : World) :
    (callFunc 21 #[.int .u64 x, .int .u64 y, .int .u64 c]).run Tryd.prog w =
      .ok (.value (.tuple #[.int .u64 ((x + y + c) % 18446744073709551616), .int .u64 ((x + y + c) / 18446744073709551616)])) w := by
  rw [run_callFunc_extern (f := 21) (fn := Tryd.f21) (by kernel_rfl) (by kernel_rfl) (by kernel_rfl) (by kernel_rfl) (e := add64Entry) (by kernel_rfl), run_add64 x y c hx hy hc0 hc]
  rfl

theorem bcell {W w1 : World} (hb : Below W.heap.size W w1) : (∀ b o, b < W.heap.size → w1.cell? ⟨b, o, none⟩ = W.cell? ⟨b, o, none⟩) ∧ (∀ b o, b < W.heap.size → w1.frozen? ⟨b, o, none⟩ = W.frozen? ⟨b, o, none⟩) :=
  ⟨fun b o h => hb.cell (p := ⟨b, o, none⟩) h, fun b o h => hb.frozen (p := ⟨b, o, none⟩) h⟩

/-- The forms in which the walk asks whether an elder block lies ahead of a new one. -/
theorem lts {a b : Nat} (h : a < b) : a < b ∧ a ≤ b ∧ a < b + 1 ∧ a ≤ b + 1 ∧ a < b + 1 + 1 ∧ a ≤ b + 1 + 1 ∧ a < b + 1 + 1 + 1 := by omega

/-- What a call that only makes memory and answers the words of V leaves. -/
def GivesBig (V : Int) (w : World) (e : Ending) (w' : World) : Prop :=
  ∃ hi lo, Big V hi lo ∧ e = .returned (.agg #[.int .u64 hi, .int .u64 lo]) ∧ Below w.heap.size w w'

set_option maxHeartbeats 1000000 in
theorem of_calls (a : Int) (w : World) :
    Calls Tryd.prog 10 #[.int .i64 a] w fun e w' => e = .returned (.agg #[.int .u64 (a / 9223372036854775808 % 18446744073709551616), .int .u64 (a % 18446744073709551616)]) ∧ Below w.heap.size w w' := by
  go_enter Tryd.func10, Tryd.ntmps10
  go_wp2
  refine bodyPost_ret (v := .agg #[.int .u64 (a / 9223372036854775808 % 18446744073709551616), .int .u64 (a % 18446744073709551616)]) (by simp [results, Tryd.results10, go_sem, Num.wrap_u64]) rfl ⟨rfl, ?_⟩
  exact below_a1 _ _

set_option maxHeartbeats 1000000 in
theorem add_calls {V U h1 l1 h2 l2 : Int} (A : Big V h1 l1) (B : Big U h2 l2) (w : World) :
    Calls Tryd.prog 9 #[.agg #[.int .u64 h1, .int .u64 l1], .agg #[.int .u64 h2, .int .u64 l2]] w (GivesBig (V + U) w) := by
  have a1 := A.h0
  have a2 := A.l0
  have a3 := B.h0
  have a4 := B.l0
  have b2 := A.l1
  have b4 := B.l1
  have A1 := fun w => add64_law l1 l2 0 a2 a4 (by omega) (by omega) w
  have A2 := fun w => add64_law h1 h2 ((l1 + l2) / 18446744073709551616) a1 a3 (by omega) (by omega) w
  go_enter Tryd.func9, Tryd.ntmps9
  go_wp2
  refine bodyPost_ret (v := .agg #[.int .u64 ((h1 + h2 + (l1 + l2) / 18446744073709551616) % 18446744073709551616), .int .u64 ((l1 + l2) % 18446744073709551616)]) (by simp [results, Tryd.results9, go_sem]) rfl ⟨_, _, A.add B, rfl, ?_⟩
  exact ((((Below.refl _ _).alloc (Nat.le_refl _) _).alloc (by simp) _).alloc (by simp; omega) _)

set_option maxHeartbeats 1000000 in
theorem below_calls {V hi lo : Int} (A : Big V hi lo) (h0 : -170141183460469231731687303715884105728 ≤ V) (h1 : V < 170141183460469231731687303715884105728) (w : World) :
    Calls Tryd.prog 19 #[.agg #[.int .u64 hi, .int .u64 lo]] w fun e w' => e = .returned (.bool (decide (V < 0))) ∧ Below w.heap.size w w' := by
  have a1 := A.h0
  have a2 := A.h1
  have hb : (hi / 9223372036854775808 == 1) = decide (V < 0) := by
    rw [Bool.eq_iff_iff]; simp [A.neg_iff h0 h1]
  clear h0 h1
  go_enter Tryd.func19, Tryd.ntmps19
  go_wp2
  go_ret
  exact ⟨rfl, below_a1 _ _⟩

set_option maxHeartbeats 1000000 in
theorem minus_calls {V hi lo : Int} (A : Big V hi lo) (w : World) :
    Calls Tryd.prog 16 #[.agg #[.int .u64 hi, .int .u64 lo]] w (GivesBig (-V) w) := by
  have a1 := A.h0
  have a2 := A.h1
  have a3 := A.l0
  have a4 := A.l1
  have N := A.not
  have O : Big 1 0 1 := Big.small (by omega) (by omega)
  have X1 := Num.u64_compl' hi a1 a2
  have X2 := Num.u64_compl' lo a3 a4
  have R : ∀ (w0 : World), Calls Tryd.prog 9 #[.agg #[.int .u64 (18446744073709551615 - hi), .int .u64 (18446744073709551615 - lo)], .agg #[.int .u64 0, .int .u64 1]] w0 (GivesBig (-V) w0) := by
    intro w0
    have := add_calls N O w0
    rwa [show -V - 1 + 1 = -V by omega] at this
  go_enter Tryd.func16, Tryd.ntmps16
  go_wp2_with (go_at_call 9; ((with_reducible refine (R _).mono ?_); rintro e w' ⟨rh, rl, B, rfl, hb⟩; obtain ⟨hc, hf⟩ := bcell hb))
  refine bodyPost_ret (v := .agg #[.int .u64 rh, .int .u64 rl]) (by simp [results, Tryd.results16, go_sem, hc]) rfl ⟨rh, rl, B, rfl, ?_⟩
  exact (((((Below.refl _ _).alloc (Nat.le_refl _) _).alloc (by simp) _).trans (hb.mono (by simp; omega))).setCell (by simp) _).setCell (by simp) _

set_option maxHeartbeats 1000000 in
theorem size_calls {V hi lo : Int} (A : Big V hi lo) (h0 : -170141183460469231731687303715884105728 ≤ V) (h1 : V < 170141183460469231731687303715884105728) (w : World) :
    Calls Tryd.prog 17 #[.agg #[.int .u64 hi, .int .u64 lo]] w (GivesBig (if V < 0 then -V else V) w) := by
  have R := fun w => below_calls A h0 h1 w
  have M := fun w => minus_calls A w
  clear h0 h1
  by_cases hn : V < 0
  · have ht : decide (V < 0) = true := by simpa using hn
    rw [ht] at R
    rw [if_pos hn]
    clear ht hn
    go_enter Tryd.func17, Tryd.ntmps17
    go_wp2_with (first
      | (go_at_call 19; ((with_reducible refine (R _).mono ?_); rintro e w1 ⟨rfl, hb1⟩; obtain ⟨hc1, hf1⟩ := bcell hb1; have hz := hb1.size; simp at hz; have hz0 : w.heap.size < w1.heap.size := (by omega); have hz1 : w.heap.size + 1 < w1.heap.size := (by omega)))
      | (go_at_call 16; ((with_reducible refine (M _).mono ?_); rintro e w2 ⟨rh, rl, B, rfl, hb⟩; obtain ⟨hc, hf⟩ := bcell hb)))
    refine bodyPost_ret (v := .agg #[.int .u64 rh, .int .u64 rl]) (by simp [results, Tryd.results17, go_sem, hc, hc1, hz0, hz1]) rfl ⟨rh, rl, B, rfl, ?_⟩
    exact ((((((Below.refl _ _).alloc (Nat.le_refl _) _).alloc (by simp) _).trans (hb1.mono (by simp; omega))).trans (hb.mono (by omega))).setCell (by simp) _).setCell (by simp) _
  · have ht : decide (V < 0) = false := by simpa using hn
    rw [ht] at R
    rw [if_neg hn]
    clear ht hn M
    go_enter Tryd.func17, Tryd.ntmps17
    go_wp2_with (go_at_call 19; ((with_reducible refine (R _).mono ?_); rintro e w1 ⟨rfl, hb1⟩; obtain ⟨hc1, hf1⟩ := bcell hb1; have hz := hb1.size; simp at hz; have hz0 : w.heap.size < w1.heap.size := (by omega); have hz1 : w.heap.size + 1 < w1.heap.size := (by omega)))
    refine bodyPost_ret (v := .agg #[.int .u64 hi, .int .u64 lo]) (by simp [results, Tryd.results17, go_sem, hc1, hz0, hz1]) rfl ⟨hi, lo, A, rfl, ?_⟩
    exact (((((Below.refl _ _).alloc (Nat.le_refl _) _).alloc (by simp) _).trans (hb1.mono (by simp; omega))).setCell (by simp) _).setCell (by simp) _
end Go.Proofs.YtngnkgnobgfjeaaDoor.Wide
