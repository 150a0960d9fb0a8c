/- Blocks of eight numbers with what they hold, and the state of three of them. -/
import Derived.Test.YtdhegcjclfllmaaCurQ
import Derived.Test.YtdhegcjclfllmaaCurB
import Derived.Test.YtdhegcjclfllmaaProg
import Derived.WalkKit
import Derived.OwnWalk
import Derived.Handy
import Derived.KernelRfl
import Derived.Below
import Derived.WideLaws
import Derived.Lib.Hide
namespace Go.Proofs.Ytdhegcjclfllmaa.PC
open Go Go.RowKit
set_option maxRecDepth 100000
set_option linter.unusedVariables false
set_option linter.unusedSimpArgs false
/-- Block b holds the eight numbers. -/
def B8 (w : World) (b : Nat) (x0 x1 x2 x3 x4 x5 x6 x7 : Int) : Prop := row8 w b = true ∧ w.cell? ⟨b, 0, none⟩ = some (.int .i64 x0) ∧ w.cell? ⟨b, 1, none⟩ = some (.int .i64 x1) ∧ w.cell? ⟨b, 2, none⟩ = some (.int .i64 x2) ∧ w.cell? ⟨b, 3, none⟩ = some (.int .i64 x3) ∧ w.cell? ⟨b, 4, none⟩ = some (.int .i64 x4) ∧ w.cell? ⟨b, 5, none⟩ = some (.int .i64 x5) ∧ w.cell? ⟨b, 6, none⟩ = some (.int .i64 x6) ∧ w.cell? ⟨b, 7, none⟩ = some (.int .i64 x7)
section
variable {w W w1 : World} {b : Nat} {x0 x1 x2 x3 x4 x5 x6 x7 : Int}
theorem B8.keep (h : B8 W b x0 x1 x2 x3 x4 x5 x6 x7) (hb : Below W.heap.size W w1) (hl : b < W.heap.size) : B8 w1 b x0 x1 x2 x3 x4 x5 x6 x7 := by
  obtain ⟨hc, hf⟩ := bcell hb
  exact ⟨(row8_below hb hl).trans h.1, (hc b 0 hl).trans h.2.1, (hc b 1 hl).trans h.2.2.1, (hc b 2 hl).trans h.2.2.2.1, (hc b 3 hl).trans h.2.2.2.2.1, (hc b 4 hl).trans h.2.2.2.2.2.1, (hc b 5 hl).trans h.2.2.2.2.2.2.1, (hc b 6 hl).trans h.2.2.2.2.2.2.2.1, (hc b 7 hl).trans h.2.2.2.2.2.2.2.2⟩
theorem B8.far {p : Addr} (h : B8 W b x0 x1 x2 x3 x4 x5 x6 x7) (v : Value) (hp : b ≠ p.block) (hq : p.spot = none) : B8 (W.setCell p v) b x0 x1 x2 x3 x4 x5 x6 x7 := by
  have ne : ∀ o, (W.setCell p v).cell? ⟨b, o, none⟩ = W.cell? ⟨b, o, none⟩ := fun o => World.cell?_setCell_other _ _ _ _ (by intro e; apply hp; rw [e])
  obtain ⟨pb, po, ps⟩ := p
  cases hq
  exact ⟨row8_set _ _ _ h.1, (ne 0).trans h.2.1, (ne 1).trans h.2.2.1, (ne 2).trans h.2.2.2.1, (ne 3).trans h.2.2.2.2.1, (ne 4).trans h.2.2.2.2.2.1, (ne 5).trans h.2.2.2.2.2.2.1, (ne 6).trans h.2.2.2.2.2.2.2.1, (ne 7).trans h.2.2.2.2.2.2.2.2⟩
theorem B8.at0 (h : B8 W b x0 x1 x2 x3 x4 x5 x6 x7) (y0 y1 : Int) : B8 ((W.setCell ⟨b, 0, none⟩ (.int .i64 y0)).setCell ⟨b, 1, none⟩ (.int .i64 y1)) b y0 y1 x2 x3 x4 x5 x6 x7 := by
  obtain ⟨h0, q0, q1, q2, q3, q4, q5, q6, q7⟩ := h
  exact ⟨row8_set _ _ _ (row8_set _ _ _ h0), by simp [go_sem, q0, q0, q1], by simp [go_sem, q1, q0, q1], by simp [go_sem, q2, q0, q1], by simp [go_sem, q3, q0, q1], by simp [go_sem, q4, q0, q1], by simp [go_sem, q5, q0, q1], by simp [go_sem, q6, q0, q1], by simp [go_sem, q7, q0, q1]⟩
theorem B8.at1 (h : B8 W b x0 x1 x2 x3 x4 x5 x6 x7) (y0 y1 : Int) : B8 ((W.setCell ⟨b, 2, none⟩ (.int .i64 y0)).setCell ⟨b, 3, none⟩ (.int .i64 y1)) b x0 x1 y0 y1 x4 x5 x6 x7 := by
  obtain ⟨h0, q0, q1, q2, q3, q4, q5, q6, q7⟩ := h
  exact ⟨row8_set _ _ _ (row8_set _ _ _ h0), by simp [go_sem, q0, q2, q3], by simp [go_sem, q1, q2, q3], by simp [go_sem, q2, q2, q3], by simp [go_sem, q3, q2, q3], by simp [go_sem, q4, q2, q3], by simp [go_sem, q5, q2, q3], by simp [go_sem, q6, q2, q3], by simp [go_sem, q7, q2, q3]⟩
theorem B8.at2 (h : B8 W b x0 x1 x2 x3 x4 x5 x6 x7) (y0 y1 : Int) : B8 ((W.setCell ⟨b, 4, none⟩ (.int .i64 y0)).setCell ⟨b, 5, none⟩ (.int .i64 y1)) b x0 x1 x2 x3 y0 y1 x6 x7 := by
  obtain ⟨h0, q0, q1, q2, q3, q4, q5, q6, q7⟩ := h
  exact ⟨row8_set _ _ _ (row8_set _ _ _ h0), by simp [go_sem, q0, q4, q5], by simp [go_sem, q1, q4, q5], by simp [go_sem, q2, q4, q5], by simp [go_sem, q3, q4, q5], by simp [go_sem, q4, q4, q5], by simp [go_sem, q5, q4, q5], by simp [go_sem, q6, q4, q5], by simp [go_sem, q7, q4, q5]⟩
theorem B8.at3 (h : B8 W b x0 x1 x2 x3 x4 x5 x6 x7) (y0 y1 : Int) : B8 ((W.setCell ⟨b, 6, none⟩ (.int .i64 y0)).setCell ⟨b, 7, none⟩ (.int .i64 y1)) b x0 x1 x2 x3 x4 x5 y0 y1 := by
  obtain ⟨h0, q0, q1, q2, q3, q4, q5, q6, q7⟩ := h
  exact ⟨row8_set _ _ _ (row8_set _ _ _ h0), by simp [go_sem, q0, q6, q7], by simp [go_sem, q1, q6, q7], by simp [go_sem, q2, q6, q7], by simp [go_sem, q3, q6, q7], by simp [go_sem, q4, q6, q7], by simp [go_sem, q5, q6, q7], by simp [go_sem, q6, q6, q7], by simp [go_sem, q7, q6, q7]⟩
theorem B8.put (h : row8 W b = true) : B8 (put8 W b x0 x1 x2 x3 x4 x5 x6 x7) b x0 x1 x2 x3 x4 x5 x6 x7 := ⟨put8_row.trans h, put8_c0 h, put8_c1 h, put8_c2 h, put8_c3 h, put8_c4 h, put8_c5 h, put8_c6 h, put8_c7 h⟩
theorem B8.putFar {y0 y1 y2 y3 y4 y5 y6 y7 : Int} {g : Nat} (h : B8 W b x0 x1 x2 x3 x4 x5 x6 x7) (hg : row8 W g = true) (hn : b ≠ g) : B8 (put8 W g y0 y1 y2 y3 y4 y5 y6 y7) b x0 x1 x2 x3 x4 x5 x6 x7 := ⟨put8_row.trans h.1, (put8_far hn).trans h.2.1, (put8_far hn).trans h.2.2.1, (put8_far hn).trans h.2.2.2.1, (put8_far hn).trans h.2.2.2.2.1, (put8_far hn).trans h.2.2.2.2.2.1, (put8_far hn).trans h.2.2.2.2.2.2.1, (put8_far hn).trans h.2.2.2.2.2.2.2.1, (put8_far hn).trans h.2.2.2.2.2.2.2.2⟩
end
/-- What the blocks left, right, row hold; the results' blocks are there. -/
structure St (w u : World) (l r q : Nat) (l0 l1 l2 l3 l4 l5 l6 l7 r0 r1 r2 r3 r4 r5 r6 r7 q0 q1 q2 q3 q4 q5 q6 q7 : Int) : Prop where
  left : B8 u l l0 l1 l2 l3 l4 l5 l6 l7
  right : B8 u r r0 r1 r2 r3 r4 r5 r6 r7
  row : B8 u q q0 q1 q2 q3 q4 q5 q6 q7
  one : row8 u (w.heap.size + 1) = true
  two : row8 u (w.heap.size + 1 + 1) = true
  hl : w.heap.size + 1 + 1 < l
  hr : w.heap.size + 1 + 1 < r
  hq : w.heap.size + 1 + 1 < q
  lr : l ≠ r
  lq : l ≠ q
  rq : r ≠ q
  hl' : l < u.heap.size
  hr' : r < u.heap.size
  hq' : q < u.heap.size
  bel : Below w.heap.size w u
section
variable {w u u1 : World} {l r q : Nat} {l0 l1 l2 l3 l4 l5 l6 l7 r0 r1 r2 r3 r4 r5 r6 r7 q0 q1 q2 q3 q4 q5 q6 q7 : Int}
theorem St.keep (h : St w u l r q l0 l1 l2 l3 l4 l5 l6 l7 r0 r1 r2 r3 r4 r5 r6 r7 q0 q1 q2 q3 q4 q5 q6 q7) (hb : Below u.heap.size u u1) : St w u1 l r q l0 l1 l2 l3 l4 l5 l6 l7 r0 r1 r2 r3 r4 r5 r6 r7 q0 q1 q2 q3 q4 q5 q6 q7 := by
  have h1 := h.hl; have h2 := h.hl'; have h3 := hb.size
  exact ⟨h.left.keep hb h.hl', h.right.keep hb h.hr', h.row.keep hb h.hq', (row8_below hb (by omega)).trans h.one, (row8_below hb (by omega)).trans h.two, h.hl, h.hr, h.hq, h.lr, h.lq, h.rq, Nat.lt_of_lt_of_le h.hl' h3, Nat.lt_of_lt_of_le h.hr' h3, Nat.lt_of_lt_of_le h.hq' h3, h.bel.trans (hb.mono (by omega))⟩
theorem St.drew (h : St w u l r q l0 l1 l2 l3 l4 l5 l6 l7 r0 r1 r2 r3 r4 r5 r6 r7 q0 q1 q2 q3 q4 q5 q6 q7) : St w u.drew l r q l0 l1 l2 l3 l4 l5 l6 l7 r0 r1 r2 r3 r4 r5 r6 r7 q0 q1 q2 q3 q4 q5 q6 q7 := ⟨h.left, h.right, h.row, h.one, h.two, h.hl, h.hr, h.hq, h.lr, h.lq, h.rq, h.hl', h.hr', h.hq', h.bel.drew⟩
theorem St.setL0 (h : St w u l r q l0 l1 l2 l3 l4 l5 l6 l7 r0 r1 r2 r3 r4 r5 r6 r7 q0 q1 q2 q3 q4 q5 q6 q7) (y0 y1 : Int) : St w ((u.setCell ⟨l, 0, none⟩ (.int .i64 y0)).setCell ⟨l, 1, none⟩ (.int .i64 y1)) l r q y0 y1 l2 l3 l4 l5 l6 l7 r0 r1 r2 r3 r4 r5 r6 r7 q0 q1 q2 q3 q4 q5 q6 q7 :=
  ⟨h.left.at0 _ _, (h.right.far _ h.lr.symm rfl).far _ h.lr.symm rfl, (h.row.far _ h.lq.symm rfl).far _ h.lq.symm rfl, row8_set _ _ _ (row8_set _ _ _ h.one), row8_set _ _ _ (row8_set _ _ _ h.two), h.hl, h.hr, h.hq, h.lr, h.lq, h.rq, by simpa using h.hl', by simpa using h.hr', by simpa using h.hq', (h.bel.setCell (by have := h.hl; show w.heap.size ≤ l; omega) _).setCell (by have := h.hl; show w.heap.size ≤ l; omega) _⟩
theorem St.setL1 (h : St w u l r q l0 l1 l2 l3 l4 l5 l6 l7 r0 r1 r2 r3 r4 r5 r6 r7 q0 q1 q2 q3 q4 q5 q6 q7) (y0 y1 : Int) : St w ((u.setCell ⟨l, 2, none⟩ (.int .i64 y0)).setCell ⟨l, 3, none⟩ (.int .i64 y1)) l r q l0 l1 y0 y1 l4 l5 l6 l7 r0 r1 r2 r3 r4 r5 r6 r7 q0 q1 q2 q3 q4 q5 q6 q7 :=
  ⟨h.left.at1 _ _, (h.right.far _ h.lr.symm rfl).far _ h.lr.symm rfl, (h.row.far _ h.lq.symm rfl).far _ h.lq.symm rfl, row8_set _ _ _ (row8_set _ _ _ h.one), row8_set _ _ _ (row8_set _ _ _ h.two), h.hl, h.hr, h.hq, h.lr, h.lq, h.rq, by simpa using h.hl', by simpa using h.hr', by simpa using h.hq', (h.bel.setCell (by have := h.hl; show w.heap.size ≤ l; omega) _).setCell (by have := h.hl; show w.heap.size ≤ l; omega) _⟩
theorem St.setL2 (h : St w u l r q l0 l1 l2 l3 l4 l5 l6 l7 r0 r1 r2 r3 r4 r5 r6 r7 q0 q1 q2 q3 q4 q5 q6 q7) (y0 y1 : Int) : St w ((u.setCell ⟨l, 4, none⟩ (.int .i64 y0)).setCell ⟨l, 5, none⟩ (.int .i64 y1)) l r q l0 l1 l2 l3 y0 y1 l6 l7 r0 r1 r2 r3 r4 r5 r6 r7 q0 q1 q2 q3 q4 q5 q6 q7 :=
  ⟨h.left.at2 _ _, (h.right.far _ h.lr.symm rfl).far _ h.lr.symm rfl, (h.row.far _ h.lq.symm rfl).far _ h.lq.symm rfl, row8_set _ _ _ (row8_set _ _ _ h.one), row8_set _ _ _ (row8_set _ _ _ h.two), h.hl, h.hr, h.hq, h.lr, h.lq, h.rq, by simpa using h.hl', by simpa using h.hr', by simpa using h.hq', (h.bel.setCell (by have := h.hl; show w.heap.size ≤ l; omega) _).setCell (by have := h.hl; show w.heap.size ≤ l; omega) _⟩
theorem St.setL3 (h : St w u l r q l0 l1 l2 l3 l4 l5 l6 l7 r0 r1 r2 r3 r4 r5 r6 r7 q0 q1 q2 q3 q4 q5 q6 q7) (y0 y1 : Int) : St w ((u.setCell ⟨l, 6, none⟩ (.int .i64 y0)).setCell ⟨l, 7, none⟩ (.int .i64 y1)) l r q l0 l1 l2 l3 l4 l5 y0 y1 r0 r1 r2 r3 r4 r5 r6 r7 q0 q1 q2 q3 q4 q5 q6 q7 :=
  ⟨h.left.at3 _ _, (h.right.far _ h.lr.symm rfl).far _ h.lr.symm rfl, (h.row.far _ h.lq.symm rfl).far _ h.lq.symm rfl, row8_set _ _ _ (row8_set _ _ _ h.one), row8_set _ _ _ (row8_set _ _ _ h.two), h.hl, h.hr, h.hq, h.lr, h.lq, h.rq, by simpa using h.hl', by simpa using h.hr', by simpa using h.hq', (h.bel.setCell (by have := h.hl; show w.heap.size ≤ l; omega) _).setCell (by have := h.hl; show w.heap.size ≤ l; omega) _⟩
theorem St.setR0 (h : St w u l r q l0 l1 l2 l3 l4 l5 l6 l7 r0 r1 r2 r3 r4 r5 r6 r7 q0 q1 q2 q3 q4 q5 q6 q7) (y0 y1 : Int) : St w ((u.setCell ⟨r, 0, none⟩ (.int .i64 y0)).setCell ⟨r, 1, none⟩ (.int .i64 y1)) l r q l0 l1 l2 l3 l4 l5 l6 l7 y0 y1 r2 r3 r4 r5 r6 r7 q0 q1 q2 q3 q4 q5 q6 q7 :=
  ⟨(h.left.far _ h.lr rfl).far _ h.lr rfl, h.right.at0 _ _, (h.row.far _ h.rq.symm rfl).far _ h.rq.symm rfl, row8_set _ _ _ (row8_set _ _ _ h.one), row8_set _ _ _ (row8_set _ _ _ h.two), h.hl, h.hr, h.hq, h.lr, h.lq, h.rq, by simpa using h.hl', by simpa using h.hr', by simpa using h.hq', (h.bel.setCell (by have := h.hr; show w.heap.size ≤ r; omega) _).setCell (by have := h.hr; show w.heap.size ≤ r; omega) _⟩
theorem St.setR1 (h : St w u l r q l0 l1 l2 l3 l4 l5 l6 l7 r0 r1 r2 r3 r4 r5 r6 r7 q0 q1 q2 q3 q4 q5 q6 q7) (y0 y1 : Int) : St w ((u.setCell ⟨r, 2, none⟩ (.int .i64 y0)).setCell ⟨r, 3, none⟩ (.int .i64 y1)) l r q l0 l1 l2 l3 l4 l5 l6 l7 r0 r1 y0 y1 r4 r5 r6 r7 q0 q1 q2 q3 q4 q5 q6 q7 :=
  ⟨(h.left.far _ h.lr rfl).far _ h.lr rfl, h.right.at1 _ _, (h.row.far _ h.rq.symm rfl).far _ h.rq.symm rfl, row8_set _ _ _ (row8_set _ _ _ h.one), row8_set _ _ _ (row8_set _ _ _ h.two), h.hl, h.hr, h.hq, h.lr, h.lq, h.rq, by simpa using h.hl', by simpa using h.hr', by simpa using h.hq', (h.bel.setCell (by have := h.hr; show w.heap.size ≤ r; omega) _).setCell (by have := h.hr; show w.heap.size ≤ r; omega) _⟩
theorem St.setR2 (h : St w u l r q l0 l1 l2 l3 l4 l5 l6 l7 r0 r1 r2 r3 r4 r5 r6 r7 q0 q1 q2 q3 q4 q5 q6 q7) (y0 y1 : Int) : St w ((u.setCell ⟨r, 4, none⟩ (.int .i64 y0)).setCell ⟨r, 5, none⟩ (.int .i64 y1)) l r q l0 l1 l2 l3 l4 l5 l6 l7 r0 r1 r2 r3 y0 y1 r6 r7 q0 q1 q2 q3 q4 q5 q6 q7 :=
  ⟨(h.left.far _ h.lr rfl).far _ h.lr rfl, h.right.at2 _ _, (h.row.far _ h.rq.symm rfl).far _ h.rq.symm rfl, row8_set _ _ _ (row8_set _ _ _ h.one), row8_set _ _ _ (row8_set _ _ _ h.two), h.hl, h.hr, h.hq, h.lr, h.lq, h.rq, by simpa using h.hl', by simpa using h.hr', by simpa using h.hq', (h.bel.setCell (by have := h.hr; show w.heap.size ≤ r; omega) _).setCell (by have := h.hr; show w.heap.size ≤ r; omega) _⟩
theorem St.setR3 (h : St w u l r q l0 l1 l2 l3 l4 l5 l6 l7 r0 r1 r2 r3 r4 r5 r6 r7 q0 q1 q2 q3 q4 q5 q6 q7) (y0 y1 : Int) : St w ((u.setCell ⟨r, 6, none⟩ (.int .i64 y0)).setCell ⟨r, 7, none⟩ (.int .i64 y1)) l r q l0 l1 l2 l3 l4 l5 l6 l7 r0 r1 r2 r3 r4 r5 y0 y1 q0 q1 q2 q3 q4 q5 q6 q7 :=
  ⟨(h.left.far _ h.lr rfl).far _ h.lr rfl, h.right.at3 _ _, (h.row.far _ h.rq.symm rfl).far _ h.rq.symm rfl, row8_set _ _ _ (row8_set _ _ _ h.one), row8_set _ _ _ (row8_set _ _ _ h.two), h.hl, h.hr, h.hq, h.lr, h.lq, h.rq, by simpa using h.hl', by simpa using h.hr', by simpa using h.hq', (h.bel.setCell (by have := h.hr; show w.heap.size ≤ r; omega) _).setCell (by have := h.hr; show w.heap.size ≤ r; omega) _⟩
theorem St.setQ0 (h : St w u l r q l0 l1 l2 l3 l4 l5 l6 l7 r0 r1 r2 r3 r4 r5 r6 r7 q0 q1 q2 q3 q4 q5 q6 q7) (y0 y1 : Int) : St w ((u.setCell ⟨q, 0, none⟩ (.int .i64 y0)).setCell ⟨q, 1, none⟩ (.int .i64 y1)) l r q l0 l1 l2 l3 l4 l5 l6 l7 r0 r1 r2 r3 r4 r5 r6 r7 y0 y1 q2 q3 q4 q5 q6 q7 :=
  ⟨(h.left.far _ h.lq rfl).far _ h.lq rfl, (h.right.far _ h.rq rfl).far _ h.rq rfl, h.row.at0 _ _, row8_set _ _ _ (row8_set _ _ _ h.one), row8_set _ _ _ (row8_set _ _ _ h.two), h.hl, h.hr, h.hq, h.lr, h.lq, h.rq, by simpa using h.hl', by simpa using h.hr', by simpa using h.hq', (h.bel.setCell (by have := h.hq; show w.heap.size ≤ q; omega) _).setCell (by have := h.hq; show w.heap.size ≤ q; omega) _⟩
theorem St.setQ1 (h : St w u l r q l0 l1 l2 l3 l4 l5 l6 l7 r0 r1 r2 r3 r4 r5 r6 r7 q0 q1 q2 q3 q4 q5 q6 q7) (y0 y1 : Int) : St w ((u.setCell ⟨q, 2, none⟩ (.int .i64 y0)).setCell ⟨q, 3, none⟩ (.int .i64 y1)) l r q l0 l1 l2 l3 l4 l5 l6 l7 r0 r1 r2 r3 r4 r5 r6 r7 q0 q1 y0 y1 q4 q5 q6 q7 :=
  ⟨(h.left.far _ h.lq rfl).far _ h.lq rfl, (h.right.far _ h.rq rfl).far _ h.rq rfl, h.row.at1 _ _, row8_set _ _ _ (row8_set _ _ _ h.one), row8_set _ _ _ (row8_set _ _ _ h.two), h.hl, h.hr, h.hq, h.lr, h.lq, h.rq, by simpa using h.hl', by simpa using h.hr', by simpa using h.hq', (h.bel.setCell (by have := h.hq; show w.heap.size ≤ q; omega) _).setCell (by have := h.hq; show w.heap.size ≤ q; omega) _⟩
theorem St.setQ2 (h : St w u l r q l0 l1 l2 l3 l4 l5 l6 l7 r0 r1 r2 r3 r4 r5 r6 r7 q0 q1 q2 q3 q4 q5 q6 q7) (y0 y1 : Int) : St w ((u.setCell ⟨q, 4, none⟩ (.int .i64 y0)).setCell ⟨q, 5, none⟩ (.int .i64 y1)) l r q l0 l1 l2 l3 l4 l5 l6 l7 r0 r1 r2 r3 r4 r5 r6 r7 q0 q1 q2 q3 y0 y1 q6 q7 :=
  ⟨(h.left.far _ h.lq rfl).far _ h.lq rfl, (h.right.far _ h.rq rfl).far _ h.rq rfl, h.row.at2 _ _, row8_set _ _ _ (row8_set _ _ _ h.one), row8_set _ _ _ (row8_set _ _ _ h.two), h.hl, h.hr, h.hq, h.lr, h.lq, h.rq, by simpa using h.hl', by simpa using h.hr', by simpa using h.hq', (h.bel.setCell (by have := h.hq; show w.heap.size ≤ q; omega) _).setCell (by have := h.hq; show w.heap.size ≤ q; omega) _⟩
theorem St.setQ3 (h : St w u l r q l0 l1 l2 l3 l4 l5 l6 l7 r0 r1 r2 r3 r4 r5 r6 r7 q0 q1 q2 q3 q4 q5 q6 q7) (y0 y1 : Int) : St w ((u.setCell ⟨q, 6, none⟩ (.int .i64 y0)).setCell ⟨q, 7, none⟩ (.int .i64 y1)) l r q l0 l1 l2 l3 l4 l5 l6 l7 r0 r1 r2 r3 r4 r5 r6 r7 q0 q1 q2 q3 q4 q5 y0 y1 :=
  ⟨(h.left.far _ h.lq rfl).far _ h.lq rfl, (h.right.far _ h.rq rfl).far _ h.rq rfl, h.row.at3 _ _, row8_set _ _ _ (row8_set _ _ _ h.one), row8_set _ _ _ (row8_set _ _ _ h.two), h.hl, h.hr, h.hq, h.lr, h.lq, h.rq, by simpa using h.hl', by simpa using h.hr', by simpa using h.hq', (h.bel.setCell (by have := h.hq; show w.heap.size ≤ q; omega) _).setCell (by have := h.hq; show w.heap.size ≤ q; omega) _⟩
theorem St.begin (hL : B8 u l l0 l1 l2 l3 l4 l5 l6 l7) (hR : B8 u r r0 r1 r2 r3 r4 r5 r6 r7) (h1 : row8 u (w.heap.size + 1) = true) (h2 : row8 u (w.heap.size + 1 + 1) = true) (hl : w.heap.size + 1 + 1 < l) (hr : w.heap.size + 1 + 1 < r) (lr : l ≠ r) (hl' : l < u.heap.size) (hr' : r < u.heap.size) (bel : Below w.heap.size w u) (hb : Below u.heap.size u u1) (t : TypeId) : St w (put8 (u1.alloc (.cells #[.int .i64 0, .int .i64 0, .int .i64 0, .int .i64 0, .int .i64 0, .int .i64 0, .int .i64 0, .int .i64 0] t)) u1.heap.size q0 q1 q2 q3 q4 q5 q6 q7) l r u1.heap.size l0 l1 l2 l3 l4 l5 l6 l7 r0 r1 r2 r3 r4 r5 r6 r7 q0 q1 q2 q3 q4 q5 q6 q7 := by
  have hs := hb.size
  have ha : Below u1.heap.size u1 (u1.alloc (.cells #[.int .i64 0, .int .i64 0, .int .i64 0, .int .i64 0, .int .i64 0, .int .i64 0, .int .i64 0, .int .i64 0] t)) := (Below.refl _ _).alloc (Nat.le_refl _) _
  have hn := row8_new u1 (.int .i64 0) (.int .i64 0) (.int .i64 0) (.int .i64 0) (.int .i64 0) (.int .i64 0) (.int .i64 0) (.int .i64 0) t
  refine ⟨((hL.keep hb hl').keep ha (by omega)).putFar hn (by omega), ((hR.keep hb hr').keep ha (by omega)).putFar hn (by omega), B8.put hn, ?_, ?_, hl, hr, by omega, lr, by omega, by omega, ?_, ?_, ?_, ?_⟩
  · exact put8_row.trans ((row8_below ha (by omega)).trans ((row8_below hb (by omega)).trans h1))
  · exact put8_row.trans ((row8_below ha (by omega)).trans ((row8_below hb (by omega)).trans h2))
  · rw [put8_size]; simp; omega
  · rw [put8_size]; simp; omega
  · rw [put8_size]; simp
  · exact put8_below ((bel.trans (hb.mono bel.size)).alloc (by have := bel.size; omega) _) (by have := bel.size; omega)
end
theorem undrew {u w1 : World} (hb : Below u.drew.heap.size u.drew w1) : Below u.heap.size u w1 := ⟨hb.os, hb.tape, hb.output, hb.size, hb.block⟩
theorem old8 {W w1 : World} (hb : Below W.heap.size W w1) : (∀ b o, b < W.heap.size → w1.cell? ⟨b, o, none⟩ = W.cell? ⟨b, o, none⟩) ∧ (∀ g, g < W.heap.size → row8 w1 g = row8 W g) ∧ W.heap.size ≤ w1.heap.size := ⟨(bcell hb).1, fun g hg => row8_below hb hg, hb.size⟩
/-- A normal end with these temporaries, in a world of which S is true. -/
def PostOf (A : Act) (S : World → Prop) : Exit → Act → World → Prop := fun ex ac u => match ex with
  | .normal => ac = A ∧ S u
  | _ => False
theorem cut_region {P : Program} {c : Code} {Q : Exit → Act → World → Prop} {act : Act} {u : World} {A : Act} {S : World → Prop} (h : Code.wp P c (PostOf A S) act u) (k : ∀ u1, S u1 → Q Exit.normal A u1) : Code.wp P c Q act u :=
  Code.wp_mono (fun ex ac u1 e => by
    cases ex <;> first | exact (e : False).elim | (obtain ⟨rfl, e⟩ := (e : ac = A ∧ S u1); exact k u1 e)) h
end Go.Proofs.Ytdhegcjclfllmaa.PC
