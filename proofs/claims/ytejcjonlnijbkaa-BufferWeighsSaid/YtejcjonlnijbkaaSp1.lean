/- The strips of an edge, as numbers: what package strip's functions answer. For all edges and heights that may be asked about. -/
import Derived.Test.YtejcjonlnijbkaaExtMd
import Derived.Test.YtejcjonlnijbkaaPEx3
import Derived.Test.YtejcjonlnijbkaaPEx1
import Derived.Test.YtejcjonlnijbkaaSm
import Derived.Test.YtejcjonlnijbkaaWm1
import Derived.LoopTactic
import Derived.Lib.Hide
namespace Go.Proofs.Ytejcjonlnijbkaa.Strip
open Go Go.RowKit Go.Proofs.Ytejcjonlnijbkaa.PE Go.Proofs.YtejcjonlnijbkaaW.PrintWords Go.Proofs.YtejcjonlnijbkaaW.PrintLast Go.Proofs.YtejcjonlnijbkaaW.PrintMore
set_option linter.unusedVariables false

theorem w64 {x : Int} (h0 : -9223372036854775808 ≤ x) (h1 : x ≤ 9223372036854775807) : wrap64 x = x := by unfold wrap64; omega
/-- A share of a, b of c: it lies between 0 and a. -/
theorem near_share {a b c : Int} (hc : 0 < c) (hb : 0 ≤ b) (hbc : b ≤ c) : (0 ≤ a → 0 ≤ Wide.near (a * b) c ∧ Wide.near (a * b) c ≤ a) ∧ (a ≤ 0 → a ≤ Wide.near (a * b) c ∧ Wide.near (a * b) c ≤ 0) := by
  unfold Wide.near
  have h2 : 0 < 2 * c := by omega
  constructor
  · intro ha
    have h0 : 0 ≤ a * b := Int.mul_nonneg ha hb
    have h1 : a * b ≤ a * c := Int.mul_le_mul_of_nonneg_left hbc ha
    refine ⟨Int.ediv_nonneg (by omega) (by omega), ?_⟩
    have : (2 * (a * b) + c) / (2 * c) < a + 1 := Int.ediv_lt_of_lt_mul h2 (by
      have : (a + 1) * (2 * c) = 2 * (a * c) + 2 * c := by rw [Int.add_mul, Int.one_mul, Int.mul_left_comm]
      omega)
    omega
  · intro ha
    have h0 : a * b ≤ 0 := Int.mul_nonpos_of_nonpos_of_nonneg ha hb
    have h1 : a * c ≤ a * b := Int.mul_le_mul_of_nonpos_left ha hbc
    constructor
    · refine Int.le_ediv_of_mul_le h2 ?_
      have : a * (2 * c) = 2 * (a * c) := Int.mul_left_comm _ _ _
      omega
    · have : (2 * (a * b) + c) / (2 * c) < 1 := Int.ediv_lt_of_lt_mul h2 (by omega)
      omega
theorem md_share {a b c : Int} (ha : -1152921504606846976 ≤ a ∧ a ≤ 1152921504606846976) (h : (0 < c ∧ 0 ≤ b ∧ b ≤ c) ∨ (c < 0 ∧ c ≤ b ∧ b ≤ 0)) :
    (0 ≤ a → 0 ≤ Wide.mulDivV a b c ∧ Wide.mulDivV a b c ≤ a) ∧ (a ≤ 0 → a ≤ Wide.mulDivV a b c ∧ Wide.mulDivV a b c ≤ 0) := by
  unfold Wide.mulDivV Wide.fitV
  rcases h with ⟨hc, hb, hbc⟩ | ⟨hc, hb, hbc⟩
  · obtain ⟨p, q⟩ := near_share (a := a) hc hb hbc
    simp only [show ¬ c = 0 by omega, show ¬ c < 0 by omega, if_false]
    generalize Wide.near (a * b) c = z at *
    split <;> constructor <;> intro h <;> first | exact p h | exact q h | (have := p; have := q; omega)
  · obtain ⟨p, q⟩ := near_share (a := a) (b := -b) (c := -c) (by omega) (by omega) (by omega)
    rw [Int.mul_neg] at p q
    simp only [show ¬ c = 0 by omega, hc, if_true, if_false]
    generalize Wide.near (-(a * b)) (-c) = z at *
    split <;> constructor <;> intro h <;> first | exact p h | exact q h | (have := p; have := q; omega)

/-- The X of an edge at a height. -/
def xAt (px py qx qy y : Int) : Int := px + Wide.mulDivV (qx - px) (y - py) (qy - py)
def sT (py qy : Int) : Int := mx (mn py qy) 0
def sE (py qy h : Int) : Int := mn (mx py qy) (h * 65536)
def sA (py qy : Int) : Int := sT py qy / 65536
def sB (py qy h : Int) : Int := (sE py qy h - 1) / 65536
/-- How many strips; the k-th one's row. -/
def sN (py qy h : Int) : Nat := if sT py qy < sE py qy h then (sB py qy h - sA py qy + 1).toNat else 0
def sRow (py qy h : Int) (k : Nat) : Int := if py > qy then sB py qy h - k else sA py qy + k
def cl (p row : Int) : Int := mn (mx p (row * 65536)) (row * 65536 + 65536)
abbrev Rw := S102
def rowS (px py qx qy row : Int) : Rw := ⟨row, ⟨xAt px py qx qy (cl py row), cl py row - row * 65536, xAt px py qx qy (cl qy row), cl qy row - row * 65536⟩⟩
def strips (px py qx qy h : Int) : List Rw := (List.range (sN py qy h)).map (fun k => rowS px py qx qy (sRow py qy h k))
def InE (n : Int) : Prop := -17179869184 ≤ n ∧ n ≤ 17179869184
/-- What may be asked. -/
structure Dom (px py qx qy h : Int) : Prop where
  ipx : InE px
  ipy : InE py
  iqx : InE qx
  iqy : InE qy
  ne : py ≠ qy
  h0 : 0 ≤ h
  h1 : h ≤ 100000

section
variable {px py qx qy h : Int}
theorem xAt_in (hd : Dom px py qx qy h) {y : Int} (hy : (py ≤ y ∧ y ≤ qy) ∨ (qy ≤ y ∧ y ≤ py)) : (px ≤ qx → px ≤ xAt px py qx qy y ∧ xAt px py qx qy y ≤ qx) ∧ (qx ≤ px → qx ≤ xAt px py qx qy y ∧ xAt px py qx qy y ≤ px) := by
  have hne := hd.ne
  obtain ⟨h1, h2⟩ := hd.ipx
  obtain ⟨h3, h4⟩ := hd.iqx
  obtain ⟨p, q⟩ := md_share (a := qx - px) (b := y - py) (c := qy - py) (by omega) (by omega)
  unfold xAt
  generalize Wide.mulDivV (qx - px) (y - py) (qy - py) = z at *
  constructor <;> intro hh
  · have := p (by omega); omega
  · have := q (by omega); omega
theorem x_f (hd : Dom px py qx qy h) {y : Int} (hy : (py ≤ y ∧ y ≤ qy) ∨ (qy ≤ y ∧ y ≤ py)) : strip_X.f px py qx qy y = some (xAt px py qx qy y) := by
  obtain ⟨p, q⟩ := xAt_in hd hy
  obtain ⟨h1, h2⟩ := hd.ipx
  obtain ⟨h3, h4⟩ := hd.iqx
  obtain ⟨h5, h6⟩ := hd.ipy
  obtain ⟨h7, h8⟩ := hd.iqy
  unfold strip_X.f wide_MulDiv.f
  rw [w64 (x := qx - px) (by omega) (by omega), w64 (x := y - py) (by omega) (by omega), w64 (x := qy - py) (by omega) (by omega), if_pos (by omega)]
  show some (wrap64 (xAt px py qx qy y)) = _
  rw [w64 (by have := p; have := q; omega) (by have := p; have := q; omega)]
theorem row_bounds (hd : Dom px py qx qy h) {k : Nat} (hk : k < sN py qy h) : 0 ≤ sRow py qy h k ∧ sRow py qy h k < h ∧ sRow py qy h k * 65536 < mx py qy ∧ mn py qy < sRow py qy h k * 65536 + 65536 := by
  obtain ⟨h5, h6⟩ := hd.ipy
  obtain ⟨h7, h8⟩ := hd.iqy
  have := hd.h0
  unfold sN at hk
  unfold sRow
  split at hk
  · rename_i hlt
    unfold sA sB at *
    unfold sT sE at *
    unfold mx mn at *
    split <;> (repeat' split at hk) <;> (repeat' split at hlt) <;> (repeat' split) <;> omega
  · omega
theorem cl_in {row : Int} (h1 : row * 65536 < mx py qy) (h2 : mn py qy < row * 65536 + 65536) : ((py ≤ cl py row ∧ cl py row ≤ qy) ∨ (qy ≤ cl py row ∧ cl py row ≤ py)) ∧ ((py ≤ cl qy row ∧ cl qy row ≤ qy) ∨ (qy ≤ cl qy row ∧ cl qy row ≤ py)) ∧ row * 65536 ≤ cl py row ∧ cl py row ≤ row * 65536 + 65536 ∧ row * 65536 ≤ cl qy row ∧ cl qy row ≤ row * 65536 + 65536 := by
  unfold cl mx mn at *
  refine ⟨?_, ?_, ?_, ?_, ?_, ?_⟩ <;> (repeat' split) <;> (repeat' split at h1) <;> (repeat' split at h2) <;> omega
theorem one_f (hd : Dom px py qx qy h) {row : Int} (r0 : 0 ≤ row) (r1 : row < h) (h1 : row * 65536 < mx py qy) (h2 : mn py qy < row * 65536 + 65536) :
    strip_one.f px py qx qy row = some ((rowS px py qx qy row).f1.f0, (rowS px py qx qy row).f1.f1, (rowS px py qx qy row).f1.f2, (rowS px py qx qy row).f1.f3) := by
  have hh := hd.h1
  obtain ⟨c1, c2, c3, c4, c5, c6⟩ := cl_in h1 h2
  unfold strip_one.f
  rw [w64 (x := row * 65536) (by omega) (by omega), w64 (x := row * 65536 + 65536) (by omega) (by omega)]
  rw [show mn (mx py (row * 65536)) (row * 65536 + 65536) = cl py row from rfl, show mn (mx qy (row * 65536)) (row * 65536 + 65536) = cl qy row from rfl]
  rw [x_f hd c1, x_f hd c2, w64 (x := cl py row - row * 65536) (by omega) (by omega), w64 (x := cl qy row - row * 65536) (by omega) (by omega)]
  rfl
theorem rows_f (hd : Dom px py qx qy h) : strip_Rows.f px py qx qy h = if sT py qy < sE py qy h then some (sA py qy, sB py qy h, true) else some (0, 0, false) := by
  have hh := hd.h1
  have hh0 := hd.h0
  obtain ⟨h5, h6⟩ := hd.ipy
  obtain ⟨h7, h8⟩ := hd.iqy
  unfold strip_Rows.f
  rw [w64 (x := h * 65536) (by omega) (by omega)]
  rw [show mx (mn py qy) 0 = sT py qy from rfl, show mn (mx py qy) (h * 65536) = sE py qy h from rfl]
  by_cases hlt : sT py qy < sE py qy h
  · have t0 : 0 ≤ sT py qy ∧ sT py qy ≤ 17179869184 := by unfold sT mx mn; (repeat' split) <;> omega
    have e0 : sE py qy h ≤ 17179869184 := by unfold sE mx mn; (repeat' split) <;> omega
    rw [if_neg (by omega), if_pos hlt, w64 (x := sE py qy h - 1) (by omega) (by omega), Int.tdiv_eq_ediv_of_nonneg (by omega), Int.tdiv_eq_ediv_of_nonneg (by omega), w64 (by omega) (by omega), w64 (by omega) (by omega)]
    rfl
  · rw [if_pos (by omega), if_neg hlt]
end
end Go.Proofs.Ytejcjonlnijbkaa.Strip

/- Package strip's All, walked: the iterator hands the strips of an edge, in order. For all edges and heights that may be asked about. -/
namespace Go.Proofs.Ytejcjonlnijbkaa.Strip
open Go Go.RowKit Go.Shelf Range Go.Proofs.Ytejcjonlnijbkaa.PE Go.Proofs.YtejcjonlnijbkaaW.PrintWords Go.Proofs.YtejcjonlnijbkaaW.PrintLast Go.Proofs.YtejcjonlnijbkaaW.PrintMore Go.Proofs.Ytejcjonlnijbkaa.Num
set_option maxRecDepth 100000
set_option linter.unusedVariables false
set_option linter.unusedSimpArgs false
attribute [local go_sem] Oper.semAt_some

def encR (x : Rw) : Array Value := #[.int .i64 x.f0, .agg #[.int .i64 x.f1.f0, .int .i64 x.f1.f1, .int .i64 x.f1.f2, .int .i64 x.f1.f3]]
theorem all_calls (px py qx qy h : Int) (w : World) : Calls Try.prog 56 #[.agg #[.int .i64 px, .int .i64 py, .int .i64 qx, .int .i64 qy], .int .i64 h] w fun e w' => e = .returned (.func (.func 66) #[] #[.pointer (some ⟨w.heap.size, 0, none⟩), .pointer (some ⟨w.heap.size + 1, 0, none⟩)]) ∧ w' = (w.alloc (.cells #[.int .i64 px, .int .i64 py, .int .i64 qx, .int .i64 qy] 38)).alloc (.cells #[.int .i64 h] 3) := by
  go_enter Try.func56, Try.ntmps56
  go_wp2
  go_ret
  exact ⟨by simp, rfl⟩

theorem strips_len (px py qx qy h : Int) : (strips px py qx qy h).length = sN py qy h := by simp [strips]
theorem strips_at (px py qx qy h : Int) {k : Nat} (hk : k < sN py qy h) : (strips px py qx qy h)[k]? = some (rowS px py qx qy (sRow py qy h k)) := by simp [strips, hk]

theorem sN_pos {px py qx qy h : Int} (hd : Dom px py qx qy h) (hok : sT py qy < sE py qy h) : 0 < sN py qy h := by
  have t0 : 0 ≤ sT py qy := by unfold sT mx mn; (repeat' split) <;> omega
  unfold sN sA sB; rw [if_pos hok]; omega
theorem last_row {px py qx qy h : Int} (hd : Dom px py qx qy h) (hok : sT py qy < sE py qy h) {k : Nat} (hk : k < sN py qy h) (hgt : qy < py) : (sRow py qy h k == sA py qy) = decide (k + 1 = sN py qy h) := by
  have h0 := sN_pos hd hok
  have t0 : sA py qy ≤ sB py qy h := by unfold sN at h0; rw [if_pos hok] at h0; omega
  rw [Bool.eq_iff_iff]; simp
  unfold sN sRow at *; rw [if_pos hok] at *; rw [if_pos hgt]; omega
theorem last_row' {px py qx qy h : Int} (hd : Dom px py qx qy h) (hok : sT py qy < sE py qy h) {k : Nat} (hk : k < sN py qy h) (hgt : ¬ qy < py) : (sRow py qy h k == sB py qy h) = decide (k + 1 = sN py qy h) := by
  have h0 := sN_pos hd hok
  have t0 : sA py qy ≤ sB py qy h := by unfold sN at h0; rw [if_pos hok] at h0; omega
  rw [Bool.eq_iff_iff]; simp
  unfold sN sRow at *; rw [if_pos hok] at *; rw [if_neg hgt]; omega
theorem next_row {px py qx qy h : Int} (hd : Dom px py qx qy h) {k : Nat} (hk : k < sN py qy h) (hgt : qy < py) : wrap64 (sRow py qy h k + -1) = sRow py qy h (k + 1) := by
  obtain ⟨r0, r1, _⟩ := row_bounds hd hk
  have := hd.h1
  rw [w64 (by omega) (by omega)]
  unfold sRow; rw [if_pos hgt, if_pos hgt]; omega
theorem next_row' {px py qx qy h : Int} (hd : Dom px py qx qy h) {k : Nat} (hk : k < sN py qy h) (hgt : ¬ qy < py) : wrap64 (sRow py qy h k + 1) = sRow py qy h (k + 1) := by
  obtain ⟨r0, r1, _⟩ := row_bounds hd hk
  have := hd.h1
  rw [w64 (by omega) (by omega)]
  unfold sRow; rw [if_neg hgt, if_neg hgt]; omega
set_option maxHeartbeats 8000000 in
theorem all_gives (n₀ B1 B2 : Nat) (px py qx qy h : Int) (hd : Dom px py qx qy h) (w : World) (hb1 : B1 < w.heap.size) (hb2 : B2 < w.heap.size)
    (c0 : w.cell? ⟨B1, 0, none⟩ = some (.int .i64 px)) (c1 : w.cell? ⟨B1, 1, none⟩ = some (.int .i64 py)) (c2 : w.cell? ⟨B1, 2, none⟩ = some (.int .i64 qx)) (c3 : w.cell? ⟨B1, 3, none⟩ = some (.int .i64 qy)) (c4 : w.cell? ⟨B2, 0, none⟩ = some (.int .i64 h)) :
    Seq.Gives Try.prog false 66 #[.pointer (some ⟨B1, 0, none⟩), .pointer (some ⟨B2, 0, none⟩)] encR n₀ [B1, B2] (strips px py qx qy h) w := by
  intro l J Jx W hW hJ _ hY h0
  have d0 := (hW.cell (p := ⟨B1, 0, none⟩) hb1).trans c0
  have d1 := (hW.cell (p := ⟨B1, 1, none⟩) hb1).trans c1
  have d2 := (hW.cell (p := ⟨B1, 2, none⟩) hb1).trans c2
  have d3 := (hW.cell (p := ⟨B1, 3, none⟩) hb1).trans c3
  have d4 := (hW.cell (p := ⟨B2, 0, none⟩) hb2).trans c4
  have hB1 := Nat.lt_of_lt_of_le hb1 hW.size
  have hB2 := Nat.lt_of_lt_of_le hb2 hW.size
  clear hW hb1 hb2 c0 c1 c2 c3 c4
  have cells : ∀ {V : World}, (∀ b ∈ [B1, B2], V.heap[b]? = W.heap[b]?) → V.cell? ⟨B1, 0, none⟩ = some (.int .i64 px) ∧ V.cell? ⟨B1, 1, none⟩ = some (.int .i64 py) ∧ V.cell? ⟨B1, 2, none⟩ = some (.int .i64 qx) ∧ V.cell? ⟨B1, 3, none⟩ = some (.int .i64 qy) := fun {V} hV =>
    ⟨(World.cell?_of_block (w := W) (a := ⟨B1, 0, none⟩) (hV B1 (by simp))).trans d0, (World.cell?_of_block (w := W) (a := ⟨B1, 1, none⟩) (hV B1 (by simp))).trans d1, (World.cell?_of_block (w := W) (a := ⟨B1, 2, none⟩) (hV B1 (by simp))).trans d2, (World.cell?_of_block (w := W) (a := ⟨B1, 3, none⟩) (hV B1 (by simp))).trans d3⟩
  by_cases hok : sT py qy < sE py qy h
  · have RW := Lib.hid (fun w => strip_Rows.calls px py qx qy h (sA py qy) (sB py qy h) true w (by rw [rows_f hd, if_pos hok]))
    have h0n : 0 < sN py qy h := sN_pos hd hok
    have hem := Classical.em (qy < py)
    rcases hem with hgt | hgt
    all_goals have HG := Lib.hid hgt
    all_goals
      refine callsIn_of_wp Try.func66 rfl trivial ?_ rfl
      simp only [Try.ntmps66, List.size_toArray, List.length_cons, List.length_nil, Nat.reduceAdd, Nat.reduceSub, Array.replicate_succ, Array.replicate_zero, List.push_toArray, List.append_toArray, List.nil_append, List.cons_append]
      gi_wp2_with (first
        | (gi_at_call 67; refine (Seq.of_calls (RW.out _)).mono ?_; rintro e w1 ⟨rfl, hb1⟩; have e1 := (hb1.cell (p := ⟨B1, 1, none⟩) hB1).trans d1; have e3 := (hb1.cell (p := ⟨B1, 3, none⟩) hB1).trans d3))
    all_goals
      have hk1 : ∀ b ∈ [B1, B2], w1.heap[b]? = W.heap[b]? := fun b hb => hb1.block b (by simp at hb; rcases hb with rfl | rfl <;> assumption)
    · gi_loopw [4] (fun r wr => ∃ k : Nat, r = .int .i64 (sRow py qy h k) ∧ k < sN py qy h ∧ J k wr ∧ W.heap.size ≤ wr.heap.size ∧ ∀ b ∈ [B1, B2], wr.heap[b]? = W.heap[b]?) (fun r _ => (sRow py qy h (sN py qy h) - intOf r).natAbs)
      case atStart => exact ⟨0, by simp [sRow, HG.out], h0n, hJ 0 _ _ h0 (Nat.le_refl _) (Seq.tick_below (Nat.le_refl _) hb1), hb1.size, hk1⟩
      case round =>
        obtain ⟨k, rfl, hk, hJk, hsz, hbk⟩ := hrel
        obtain ⟨r0, r1, r2, r3⟩ := row_bounds hd hk
        have ON := Lib.hid (fun w => strip_one.calls px py qx qy _ _ _ _ _ w (one_f hd r0 r1 r2 r3))
        have hx := Lib.hid (strips_at px py qx qy h hk)
        have HY := Lib.hid (hY k _ · hx.out)
        obtain ⟨g0, g1, g2, g3⟩ := cells hbk
        have hlast : (sRow py qy h k == sA py qy) = decide (k + 1 = sN py qy h) := last_row hd hok hk HG.out
        have hnext : wrap64 (sRow py qy h k + -1) = sRow py qy h (k + 1) := next_row hd hk HG.out
        have HD := Lib.hid hd
        have hmes : Hid ((sRow py qy h (sN py qy h) - sRow py qy h (k + 1)).natAbs < (sRow py qy h (sN py qy h) - sRow py qy h k).natAbs) := Lib.hid (by unfold sRow; rw [if_pos HG.out, if_pos HG.out, if_pos HG.out]; omega)
        clear hd hx hY
        generalize hX : rowS px py qx qy (sRow py qy h k) = x at *
        have hxr : x.f0 = sRow py qy h k := by rw [← hX]; rfl
        have HNX := Lib.hid hnext
        clear hX hnext
        have hsk := Lib.hid (rfl : sRow py qy h k = sRow py qy h k)
        generalize hrow : sRow py qy h k = row at *
        have hrow' := Lib.hid hrow
        clear hrow hsk
        gi_wp2_with (gi_at_call 68; refine (Seq.of_calls (ON.out _)).mono ?_; rintro e w2 ⟨rfl, hb2⟩)
        have hs2 := Nat.le_trans hsz hb2.size
        obtain ⟨fn, tmps, assign, body, hy2, hR⟩ := HY.out w2 hs2 (hJ k _ _ hJk hsz (Seq.tick_below hsz hb2))
        have hR := Seq.roundIn_any (ro' := none) (n' := 0 - 1) hR
        unfold encR at hy2
        rw [hxr] at hy2
        rw [hy2]
        gi_wp2
        refine hR.mono ?_
        rintro e W3 (⟨rfl, hJ3, hk3⟩ | ⟨rfl, hJx3, _⟩)
        · by_cases hkn : k + 1 = sN py qy h
          · rw [decide_eq_true hkn] at hlast
            gi_wp2
            refine bodyPost_ret (results_none rfl _ _ _) rfl ?_
            exact ⟨⟨_, rfl⟩, .inl (by rw [strips_len, ← hkn]; exact hJ3)⟩
          · rw [decide_eq_false hkn] at hlast
            gi_wp2
            go_roundw
            case rel => exact ⟨k + 1, by rw [← HNX.out], by omega, hJ3, Nat.le_trans hs2 hk3.1.size, fun b hb => (hk3.2.2 b hb).trans ((hb2.block b (by simp at hb; rcases hb with rfl | rfl <;> omega)).trans (hbk b hb))⟩
            case measure => rw [HNX.out]; have := hmes.out; simp only [intOf]; exact this
        · gi_wp2
          refine bodyPost_ret (results_none rfl _ _ _) rfl ?_
          exact ⟨⟨_, rfl⟩, .inr ⟨k + 1, by rw [strips_len]; omega, hJx3⟩⟩
    · gi_loopw [4] (fun r wr => ∃ k : Nat, r = .int .i64 (sRow py qy h k) ∧ k < sN py qy h ∧ J k wr ∧ W.heap.size ≤ wr.heap.size ∧ ∀ b ∈ [B1, B2], wr.heap[b]? = W.heap[b]?) (fun r _ => (sRow py qy h (sN py qy h) - intOf r).natAbs)
      case atStart => exact ⟨0, by have HN : ¬ qy < py := (by have := HG.out; omega); simp [sRow, HN], h0n, hJ 0 _ _ h0 (Nat.le_refl _) (Seq.tick_below (Nat.le_refl _) hb1), hb1.size, hk1⟩
      case round =>
        obtain ⟨k, rfl, hk, hJk, hsz, hbk⟩ := hrel
        have HN : ¬ qy < py := (by have := HG.out; omega)
        obtain ⟨r0, r1, r2, r3⟩ := row_bounds hd hk
        have ON := Lib.hid (fun w => strip_one.calls px py qx qy _ _ _ _ _ w (one_f hd r0 r1 r2 r3))
        have hx := Lib.hid (strips_at px py qx qy h hk)
        have HY := Lib.hid (hY k _ · hx.out)
        obtain ⟨g0, g1, g2, g3⟩ := cells hbk
        have hlast : (sRow py qy h k == sB py qy h) = decide (k + 1 = sN py qy h) := last_row' hd hok hk HN
        have hnext : wrap64 (sRow py qy h k + 1) = sRow py qy h (k + 1) := next_row' hd hk HN
        have HD := Lib.hid hd
        have hmes : Hid ((sRow py qy h (sN py qy h) - sRow py qy h (k + 1)).natAbs < (sRow py qy h (sN py qy h) - sRow py qy h k).natAbs) := Lib.hid (by unfold sRow; rw [if_neg HN, if_neg HN, if_neg HN]; omega)
        clear hd hx hY
        generalize hX : rowS px py qx qy (sRow py qy h k) = x at *
        have hxr : x.f0 = sRow py qy h k := by rw [← hX]; rfl
        have HNX := Lib.hid hnext
        clear hX hnext
        have hsk := Lib.hid (rfl : sRow py qy h k = sRow py qy h k)
        generalize hrow : sRow py qy h k = row at *
        have hrow' := Lib.hid hrow
        clear hrow hsk
        gi_wp2_with (gi_at_call 68; refine (Seq.of_calls (ON.out _)).mono ?_; rintro e w2 ⟨rfl, hb2⟩)
        have hs2 := Nat.le_trans hsz hb2.size
        obtain ⟨fn, tmps, assign, body, hy2, hR⟩ := HY.out w2 hs2 (hJ k _ _ hJk hsz (Seq.tick_below hsz hb2))
        have hR := Seq.roundIn_any (ro' := none) (n' := 0 - 1) hR
        unfold encR at hy2
        rw [hxr] at hy2
        rw [hy2]
        gi_wp2
        refine hR.mono ?_
        rintro e W3 (⟨rfl, hJ3, hk3⟩ | ⟨rfl, hJx3, _⟩)
        · by_cases hkn : k + 1 = sN py qy h
          · rw [decide_eq_true hkn] at hlast
            gi_wp2
            refine bodyPost_ret (results_none rfl _ _ _) rfl ?_
            exact ⟨⟨_, rfl⟩, .inl (by rw [strips_len, ← hkn]; exact hJ3)⟩
          · rw [decide_eq_false hkn] at hlast
            gi_wp2
            go_roundw
            case rel => exact ⟨k + 1, by rw [← HNX.out], by omega, hJ3, Nat.le_trans hs2 hk3.1.size, fun b hb => (hk3.2.2 b hb).trans ((hb2.block b (by simp at hb; rcases hb with rfl | rfl <;> omega)).trans (hbk b hb))⟩
            case measure => rw [HNX.out]; have := hmes.out; simp only [intOf]; exact this
        · gi_wp2
          refine bodyPost_ret (results_none rfl _ _ _) rfl ?_
          exact ⟨⟨_, rfl⟩, .inr ⟨k + 1, by rw [strips_len]; omega, hJx3⟩⟩
  · have RW := Lib.hid (fun w => strip_Rows.calls px py qx qy h 0 0 false w (by rw [rows_f hd, if_neg hok]))
    have h0n : sN py qy h = 0 := by unfold sN; rw [if_neg hok]
    have hlen := strips_len px py qx qy h
    rw [h0n] at hlen
    have hem := Classical.em (qy < py)
    rcases hem with hgt | hgt
    all_goals have HG := Lib.hid hgt
    all_goals
      refine callsIn_of_wp Try.func66 rfl trivial ?_ rfl
      simp only [Try.ntmps66, List.size_toArray, List.length_cons, List.length_nil, Nat.reduceAdd, Nat.reduceSub, Array.replicate_succ, Array.replicate_zero, List.push_toArray, List.append_toArray, List.nil_append, List.cons_append]
      gi_wp2_with (first
        | (gi_at_call 67; refine (Seq.of_calls (RW.out _)).mono ?_; rintro e w1 ⟨rfl, hb1⟩; have e1 := (hb1.cell (p := ⟨B1, 1, none⟩) hB1).trans d1; have e3 := (hb1.cell (p := ⟨B1, 3, none⟩) hB1).trans d3))
      gi_loopw [] (fun wr => wr = w1) (fun _ => 0)
      case atStart => rfl
      case round =>
        subst hrel
        gi_wp2
        go_end0
        exact ⟨⟨_, rfl⟩, .inl (by rw [hlen]; exact hJ 0 _ _ h0 (Nat.le_refl _) (Seq.tick_below (Nat.le_refl _) hb1))⟩
end Go.Proofs.Ytejcjonlnijbkaa.Strip
