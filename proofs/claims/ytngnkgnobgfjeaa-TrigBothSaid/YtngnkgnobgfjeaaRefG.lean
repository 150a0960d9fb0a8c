/- Package ref01, walked: Floor, bit by bit. For all numbers of few digits, the divisor above 0. -/
import Derived.Test.YtngnkgnobgfjeaaRefE
namespace Go.Proofs.Ytngnkgnobgfjeaa.Ref
open Go Go.RowKit Open
set_option maxRecDepth 100000
set_option linter.unusedVariables false
set_option linter.unusedSimpArgs false

/-- The bits of a number, the lowest one first. -/
structure Bits (a : Int) (bits : List Int) (d : Int) : Prop where
  at_ : ∀ k, k < bits.length → bits.getD k 0 = a / 2 ^ k % 2
  rest : d = a / 2 ^ bits.length
theorem Bits.start (a : Int) : Bits a [] a := ⟨fun k hk => by simp at hk, by simp⟩
theorem div_pow_succ (a : Int) (k : Nat) : a / 2 ^ (k + 1) = a / 2 ^ k / 2 := by
  rw [Int.pow_succ, Int.ediv_ediv_of_nonneg (Int.pow_nonneg (by omega))]
theorem Bits.step {a : Int} {bits : List Int} {d : Int} (h : Bits a bits d) : Bits a (bits ++ [d % 2]) (d / 2) := by
  refine ⟨fun k hk => ?_, ?_⟩
  · rcases Nat.lt_or_ge k bits.length with h1 | h1
    · have : (bits ++ [d % 2]).getD k 0 = bits.getD k 0 := by simp [List.getElem?_append_left h1]
      rw [this]; exact h.at_ k h1
    · obtain rfl : k = bits.length := by simp at hk; omega
      simp [← h.rest]
  · simp only [List.length_append, List.length_singleton]
    rw [div_pow_succ, ← h.rest]
theorem two_pow_pos (t : Nat) : (1 : Int) ≤ 2 ^ t := by
  induction t with
  | zero => decide
  | succ t ih => rw [Int.pow_succ]; omega
theorem Bits.small {a : Int} {bits : List Int} {d : Int} (h : Bits a bits d) {m : Nat} (h0 : 0 ≤ a) (hd : 0 < d) (ha : a < 2 ^ m) : bits.length < m := by
  rcases Nat.lt_or_ge bits.length m with h1 | h1
  · exact h1
  · exfalso
    have hp : (2 : Int) ^ m ≤ 2 ^ bits.length := by
      obtain ⟨t, ht⟩ := Nat.le.dest h1
      rw [← ht, Int.pow_add]
      have := two_pow_pos t
      have h3 : (0 : Int) ≤ 2 ^ m := Int.pow_nonneg (by omega)
      have := Int.mul_le_mul_of_nonneg_left this h3
      omega
    rw [h.rest] at hd
    rw [Int.ediv_eq_zero_of_lt h0 (by omega)] at hd; omega

/-- Long division, a bit more. -/
theorem div_step {h c q r bit : Int} (hc : 0 < c) (hq : q = h / c) (hr : r = h % c) (hb0 : 0 ≤ bit) (hb1 : bit ≤ 1) :
    (2 * r + bit < c → (2 * h + bit) / c = 2 * q ∧ (2 * h + bit) % c = 2 * r + bit) ∧ (c ≤ 2 * r + bit → (2 * h + bit) / c = 2 * q + 1 ∧ (2 * h + bit) % c = 2 * r + bit - c) := by
  have e := Int.mul_ediv_add_emod h c
  have m0 := Int.emod_nonneg h (show c ≠ 0 by omega)
  have m1 := Int.emod_lt_of_pos h hc
  rw [← hq, ← hr] at e
  rw [← hr] at m0 m1
  have key : ∀ Q R : Int, c * Q + R = 2 * h + bit → 0 ≤ R → R < c → (2 * h + bit) / c = Q ∧ (2 * h + bit) % c = R := by
    intro Q R h1 h2 h3
    have h4 : (2 * h + bit) / c = Q := by
      rw [← h1, Int.add_comm, Int.add_mul_ediv_left _ _ (by omega), Int.ediv_eq_zero_of_lt h2 h3]; omega
    have h5 : (2 * h + bit) % c = R := by
      rw [← h1, Int.add_comm, Int.add_mul_emod_self_left, Int.emod_eq_of_lt h2 h3]
    exact ⟨h4, h5⟩
  constructor
  · intro h1
    refine key _ _ ?_ (by omega) h1
    have : c * (2 * q) = 2 * (c * q) := by rw [Int.mul_left_comm]
    omega
  · intro h1
    refine key _ _ ?_ (by omega) (by omega)
    have : c * (2 * q + 1) = 2 * (c * q) + c := by rw [Int.mul_add, Int.mul_left_comm]; omega
    omega
/-- The bits above the k-th, and the k-th. -/
theorem high_bits (a : Int) (k : Nat) : a / 2 ^ k = 2 * (a / 2 ^ (k + 1)) + a / 2 ^ k % 2 := by
  rw [div_pow_succ]
  generalize a / 2 ^ k = x
  omega

theorem _root_.Go.Proofs.Ytngnkgnobgfjeaa.Open.IntRow.grown {w w' : World} {k : IntKind} {A : Option Addr} {zs : List Int} {row : Option Nat} (h : IntRow w k A zs) (hg : w.grownBy w' row) (hne : ∀ a, A = some a → some a.block ≠ row) : IntRow w' k A zs :=
  ⟨fun i hi => by
    obtain ⟨b, off, e, hl, hc⟩ := h.cell i hi
    have hn : some b ≠ row := hne _ e
    exact ⟨b, off, e, Nat.lt_of_lt_of_le hl hg.size, World.grownBy.cell hg (a := ⟨b, off + i, none⟩) hc hn⟩, h.wf⟩
theorem one_row (w : World) (x : Int) (hx : (Lit.int .i64 x).wf = true) : IntRow (w.alloc (.cells #[.int .i64 x] 3)) .i64 (some ⟨w.heap.size, 0, none⟩) [x] :=
  ⟨fun i hi => by
    obtain rfl : i = 0 := by simp at hi; omega
    exact ⟨_, _, rfl, by simp, by simp⟩, fun z hz => by simp at hz; subst hz; exact hx⟩
/-- The length of a slice, for a measure. -/
def lenOf : Value → Nat
  | .slice _ n _ => n
  | _ => 0

theorem two_keep {w wc w1 : World} {x0 x1 z0 z1 : Value} {A B : Option Addr} {ps qs : List Int}
    (h : wc.cell? ⟨w.heap.size, 0, none⟩ = some x0 ∧ wc.cell? ⟨w.heap.size, 1, none⟩ = some x1 ∧ wc.cell? ⟨w.heap.size + 1, 0, none⟩ = some z0 ∧ wc.cell? ⟨w.heap.size + 1, 1, none⟩ = some z1 ∧ wc.frozen? ⟨w.heap.size + 1, 0, none⟩ = false ∧ wc.frozen? ⟨w.heap.size + 1, 1, none⟩ = false ∧ IntRow wc .i64 A ps ∧ IntRow wc .i64 B qs ∧ w.heap.size + 1 < wc.heap.size)
    (hb : Below wc.heap.size wc w1) :
    w1.cell? ⟨w.heap.size, 0, none⟩ = some x0 ∧ w1.cell? ⟨w.heap.size, 1, none⟩ = some x1 ∧ w1.cell? ⟨w.heap.size + 1, 0, none⟩ = some z0 ∧ w1.cell? ⟨w.heap.size + 1, 1, none⟩ = some z1 ∧ w1.frozen? ⟨w.heap.size + 1, 0, none⟩ = false ∧ w1.frozen? ⟨w.heap.size + 1, 1, none⟩ = false ∧ IntRow w1 .i64 A ps ∧ IntRow w1 .i64 B qs ∧ w.heap.size + 1 < w1.heap.size := by
  obtain ⟨h1, h2, h3, h4, f1, f2, r1, r2, hs⟩ := h
  obtain ⟨hc, hf⟩ := bcell hb
  have hz := hb.size
  exact ⟨(hc _ _ (by omega)).trans h1, (hc _ _ (by omega)).trans h2, (hc _ _ (by omega)).trans h3, (hc _ _ (by omega)).trans h4, (hf _ _ (by omega)).trans f1, (hf _ _ (by omega)).trans f2, r1.below hb, r2.below hb, by omega⟩
theorem two_begin {w : World} (x0 x1 z0 z1 : Value) (t : TypeId) {A B : Option Addr} {ps qs : List Int} (hA : IntRow w .i64 A ps) (hB : IntRow w .i64 B qs) {W : World} (hW : W = (w.alloc (.cells #[x0, x1] t)).alloc (.cells #[z0, z1] t)) :
    W.cell? ⟨w.heap.size, 0, none⟩ = some x0 ∧ W.cell? ⟨w.heap.size, 1, none⟩ = some x1 ∧ W.cell? ⟨w.heap.size + 1, 0, none⟩ = some z0 ∧ W.cell? ⟨w.heap.size + 1, 1, none⟩ = some z1 ∧ W.frozen? ⟨w.heap.size + 1, 0, none⟩ = false ∧ W.frozen? ⟨w.heap.size + 1, 1, none⟩ = false ∧ IntRow W .i64 A ps ∧ IntRow W .i64 B qs ∧ w.heap.size + 1 < W.heap.size := by
  subst hW
  refine ⟨?_, ?_, ?_, ?_, ?_, ?_, (hA.below (below_a1 _ _)).below (below_a1 _ _), (hB.below (below_a1 _ _)).below (below_a1 _ _), ?_⟩ <;> simp [go_sem]
end Go.Proofs.Ytngnkgnobgfjeaa.Ref
