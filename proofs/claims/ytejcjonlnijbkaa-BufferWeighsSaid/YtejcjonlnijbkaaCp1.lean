/- The pieces and the cells of a strip, as numbers: what package cell's functions answer. For all strips and widths that may be asked about. -/
import Derived.Test.YtejcjonlnijbkaaExtMd
import Derived.Test.YtejcjonlnijbkaaMdShare
import Derived.Test.YtejcjonlnijbkaaPEx4
import Derived.Test.YtejcjonlnijbkaaSm
import Derived.Test.YtejcjonlnijbkaaWm1
import Derived.LoopTactic
import Derived.Lib.Hide
import Derived.Sort.QuietTacIn
import Derived.Test.YtejcjonlnijbkaaKs
import Derived.Scope
namespace Go.Proofs.Ytejcjonlnijbkaa.Cell
open Go Go.RowKit Go.Proofs.Ytejcjonlnijbkaa.PE Go.Proofs.YtejcjonlnijbkaaW.PrintWords Go.Proofs.YtejcjonlnijbkaaW.PrintLast Go.Proofs.YtejcjonlnijbkaaW.PrintMore
set_option linter.unusedVariables false

abbrev Pc := S100
abbrev Cl := S62
theorem w64 {x : Int} (h0 : -9223372036854775808 ≤ x) (h1 : x ≤ 9223372036854775807) : wrap64 x = x := by unfold wrap64; omega
/-- What may be asked. -/
structure Dom (X0 Y0 X1 Y1 w : Int) : Prop where
  x0 : -17179869184 ≤ X0 ∧ X0 ≤ 17179869184
  x1 : -17179869184 ≤ X1 ∧ X1 ≤ 17179869184
  y0 : 0 ≤ Y0 ∧ Y0 ≤ 65536
  y1 : 0 ≤ Y1 ∧ Y1 ≤ 65536
  w0 : 1 ≤ w
  w1 : w ≤ 100000
def hAt (X0 Y0 X1 Y1 x : Int) : Int := Y0 + Wide.mulDivV (Y1 - Y0) (x - X0) (X1 - X0)
/-- The first line, the last one, how many; the i-th one. -/
def lF (X0 X1 : Int) : Int := mx ((mn X0 X1 + 65536) / 65536) 0
def lL (X0 X1 w : Int) : Int := mn ((mx X0 X1 - 1) / 65536) w
def lN (X0 X1 w : Int) : Nat := (lL X0 X1 w - lF X0 X1 + 1).toNat
def lK (X0 X1 w : Int) (i : Nat) : Int := if X0 > X1 then lL X0 X1 w - i else lF X0 X1 + i
def lns (X0 X1 w : Int) : List Int := (List.range (lN X0 X1 w)).map (fun i => lK X0 X1 w i * 65536)
def pX (X0 X1 w : Int) (i : Nat) : Int := if i = 0 then X0 else if i ≤ lN X0 X1 w then lK X0 X1 w (i - 1) * 65536 else X1
def pY (X0 Y0 X1 Y1 w : Int) (i : Nat) : Int := if i = 0 then Y0 else if i ≤ lN X0 X1 w then hAt X0 Y0 X1 Y1 (lK X0 X1 w (i - 1) * 65536) else Y1
def piece (X0 Y0 X1 Y1 w : Int) (i : Nat) : Pc := ⟨pX X0 X1 w i, pY X0 Y0 X1 Y1 w i, pX X0 X1 w (i + 1), pY X0 Y0 X1 Y1 w (i + 1)⟩
def cuts (X0 Y0 X1 Y1 w : Int) : List Pc := (List.range (lN X0 X1 w + 1)).map (piece X0 Y0 X1 Y1 w)
def cellOf (w : Int) (p : Pc) : Option Cl :=
  if p.f3 - p.f1 = 0 ∨ mn p.f0 p.f2 / 65536 ≥ w then none
  else if mn p.f0 p.f2 / 65536 < 0 then some ⟨0, ⟨p.f3 - p.f1, 0⟩⟩
  else some ⟨mn p.f0 p.f2 / 65536, ⟨p.f3 - p.f1, (p.f3 - p.f1) * (p.f0 + p.f2 - 2 * (mn p.f0 p.f2 / 65536) * 65536)⟩⟩
def cells (X0 Y0 X1 Y1 w : Int) : List Cl := (cuts X0 Y0 X1 Y1 w).filterMap (cellOf w)

section
variable {X0 Y0 X1 Y1 w : Int}
theorem lns_len : (lns X0 X1 w).length = lN X0 X1 w := by simp [lns]
theorem lns_at {i : Nat} (h : i < lN X0 X1 w) : (lns X0 X1 w)[i]? = some (lK X0 X1 w i * 65536) := by simp [lns, h]
theorem cuts_len : (cuts X0 Y0 X1 Y1 w).length = lN X0 X1 w + 1 := by simp [cuts]
theorem cuts_at {i : Nat} (h : i < lN X0 X1 w + 1) : (cuts X0 Y0 X1 Y1 w)[i]? = some (piece X0 Y0 X1 Y1 w i) := by simp [cuts, h]
/-- A line lies between the ends, and in the picture. -/
theorem line_in (hd : Dom X0 Y0 X1 Y1 w) {i : Nat} (h : i < lN X0 X1 w) : 0 ≤ lK X0 X1 w i ∧ lK X0 X1 w i ≤ w ∧ mn X0 X1 < lK X0 X1 w i * 65536 ∧ lK X0 X1 w i * 65536 < mx X0 X1 := by
  unfold lN at h
  have h1 : lF X0 X1 ≥ 0 ∧ lF X0 X1 * 65536 > mn X0 X1 := by
    unfold lF mx; split <;> omega
  have h2 : lL X0 X1 w ≤ w ∧ lL X0 X1 w * 65536 < mx X0 X1 := by
    unfold lL mn; split <;> omega
  unfold lK
  split <;> omega
theorem lN_le (hd : Dom X0 Y0 X1 Y1 w) : (lN X0 X1 w : Int) ≤ w + 1 := by
  have := hd.w0
  unfold lN lL lF mx mn; (repeat' split) <;> omega
theorem hAt_in (hd : Dom X0 Y0 X1 Y1 w) {x : Int} (hx : (X0 < x ∧ x < X1) ∨ (X1 < x ∧ x < X0)) : (Y0 ≤ Y1 → Y0 ≤ hAt X0 Y0 X1 Y1 x ∧ hAt X0 Y0 X1 Y1 x ≤ Y1) ∧ (Y1 ≤ Y0 → Y1 ≤ hAt X0 Y0 X1 Y1 x ∧ hAt X0 Y0 X1 Y1 x ≤ Y0) := by
  have h1 := hd.y0
  have h2 := hd.y1
  obtain ⟨p, q⟩ := MdShare.md_share (a := Y1 - Y0) (b := x - X0) (c := X1 - X0) (by omega) (by omega)
  unfold hAt
  generalize Wide.mulDivV (Y1 - Y0) (x - X0) (X1 - X0) = z at *
  constructor <;> intro hh
  · have := p (by omega); omega
  · have := q (by omega); omega
theorem height_f (hd : Dom X0 Y0 X1 Y1 w) {x : Int} (hx : (X0 < x ∧ x < X1) ∨ (X1 < x ∧ x < X0)) : cell_height.f X0 Y0 X1 Y1 x = some (hAt X0 Y0 X1 Y1 x) := by
  obtain ⟨p, q⟩ := hAt_in hd hx
  have h1 := hd.x0
  have h2 := hd.x1
  have h3 := hd.y0
  have h4 := hd.y1
  unfold cell_height.f wide_MulDiv.f
  rw [w64 (x := Y1 - Y0) (by omega) (by omega), w64 (x := x - X0) (by omega) (by omega), w64 (x := X1 - X0) (by omega) (by omega), if_pos (by omega)]
  show some (wrap64 (hAt X0 Y0 X1 Y1 x)) = _
  rw [w64 (by have := p; have := q; omega) (by have := p; have := q; omega)]
theorem line_lt (hd : Dom X0 Y0 X1 Y1 w) {i : Nat} (h : i < lN X0 X1 w) : (X0 < lK X0 X1 w i * 65536 ∧ lK X0 X1 w i * 65536 < X1) ∨ (X1 < lK X0 X1 w i * 65536 ∧ lK X0 X1 w i * 65536 < X0) := by
  obtain ⟨_, _, h1, h2⟩ := line_in hd h
  unfold mn at h1; unfold mx at h2
  (repeat' split at h1) <;> (repeat' split at h2) <;> omega
theorem pX_in (hd : Dom X0 Y0 X1 Y1 w) (i : Nat) : mn X0 X1 ≤ pX X0 X1 w i ∧ pX X0 X1 w i ≤ mx X0 X1 := by
  unfold pX
  split
  · unfold mn mx; (repeat' split) <;> omega
  · split
    · obtain ⟨_, _, h1, h2⟩ := line_in hd (i := i - 1) (by omega); omega
    · unfold mn mx; (repeat' split) <;> omega
theorem pY_in (hd : Dom X0 Y0 X1 Y1 w) (i : Nat) : mn Y0 Y1 ≤ pY X0 Y0 X1 Y1 w i ∧ pY X0 Y0 X1 Y1 w i ≤ mx Y0 Y1 := by
  unfold pY
  split
  · unfold mn mx; (repeat' split) <;> omega
  · split
    · obtain ⟨p, q⟩ := hAt_in hd (line_lt hd (i := i - 1) (by omega))
      generalize hAt X0 Y0 X1 Y1 (lK X0 X1 w (i - 1) * 65536) = z at *
      unfold mn mx
      rcases Int.le_total Y0 Y1 with h | h
      · have := p h; (repeat' split) <;> omega
      · have := q h; (repeat' split) <;> omega
    · unfold mn mx; (repeat' split) <;> omega
end
end Go.Proofs.Ytejcjonlnijbkaa.Cell

/- Package cell's lines, walked: the iterator hands the lines that a strip comes to, in order. For all strips and widths that may be asked about. -/
namespace Go.Proofs.Ytejcjonlnijbkaa.Cell
open Go Go.RowKit Go.Shelf Range Go.Proofs.Ytejcjonlnijbkaa.PE Go.Proofs.YtejcjonlnijbkaaW.PrintWords Go.Proofs.YtejcjonlnijbkaaW.PrintLast Go.Proofs.YtejcjonlnijbkaaW.PrintMore Go.Proofs.Ytejcjonlnijbkaa.Num
set_option maxRecDepth 100000
set_option linter.unusedVariables false
set_option linter.unusedSimpArgs false
attribute [local go_sem] Oper.semAt_some max2_int min2_int max_two min_two

def encI (x : Int) : Array Value := #[.int .i64 x]
theorem lines_calls (X0 Y0 X1 Y1 v : Int) (w : World) : Calls Try.prog 79 #[.agg #[.int .i64 X0, .int .i64 Y0, .int .i64 X1, .int .i64 Y1], .int .i64 v] w fun e w' => e = .returned (.func (.func 90) #[] #[.pointer (some ⟨w.heap.size, 0, none⟩), .pointer (some ⟨w.heap.size + 1, 0, none⟩)]) ∧ w' = (w.alloc (.cells #[.int .i64 X0, .int .i64 Y0, .int .i64 X1, .int .i64 Y1] 100)).alloc (.cells #[.int .i64 v] 3) := by
  go_enter Try.func79, Try.ntmps79
  go_wp2
  go_ret
  exact ⟨by simp, rfl⟩

set_option maxHeartbeats 8000000 in
theorem lines_gives (n₀ B1 B2 : Nat) (X0 Y0 X1 Y1 v : Int) (hd : Dom X0 Y0 X1 Y1 v) (w : World) (hb1 : B1 < w.heap.size) (hb2 : B2 < w.heap.size)
    (c0 : w.cell? ⟨B1, 0, none⟩ = some (.int .i64 X0)) (c2 : w.cell? ⟨B1, 2, none⟩ = some (.int .i64 X1)) (c4 : w.cell? ⟨B2, 0, none⟩ = some (.int .i64 v)) :
    Seq.Gives Try.prog false 90 #[.pointer (some ⟨B1, 0, none⟩), .pointer (some ⟨B2, 0, none⟩)] encI n₀ [] (lns X0 X1 v) w := by
  intro l J Jx W hW hJ _ hY h0
  have d0 := (hW.cell (p := ⟨B1, 0, none⟩) hb1).trans c0
  have d2 := (hW.cell (p := ⟨B1, 2, none⟩) hb1).trans c2
  have d4 := (hW.cell (p := ⟨B2, 0, none⟩) hb2).trans c4
  clear hW hb1 hb2 c0 c2 c4
  have hx0 := hd.x0
  have hx1 := hd.x1
  have hw1 := hd.w1
  have hw0 := hd.w0
  refine callsIn_of_wp Try.func90 rfl trivial ?_ rfl
  simp only [Try.ntmps90, List.size_toArray, List.length_cons, List.length_nil, Nat.reduceAdd, Nat.reduceSub, Array.replicate_succ, Array.replicate_zero, List.push_toArray, List.append_toArray, List.nil_append, List.cons_append]
  gi_wp2
  gi_quiet_th (skip)
  rw [show (if X1 < X0 then X1 else X0) = mn X0 X1 from rfl, show (if X0 < X1 then X1 else X0) = mx X0 X1 from rfl]
  have hlo : -17179869184 ≤ mn X0 X1 ∧ mn X0 X1 ≤ 17179869184 := by unfold mn; split <;> omega
  have hhi : -17179869184 ≤ mx X0 X1 ∧ mx X0 X1 ≤ 17179869184 := by unfold mx; split <;> omega
  have e1 : wrap64 (mn X0 X1 + 65536) = mn X0 X1 + 65536 := w64 (by omega) (by omega)
  have e2 : wrap64 (mx X0 X1 - 1) = mx X0 X1 - 1 := w64 (by omega) (by omega)
  have hdw : (W.drewN nq).cell? ⟨B2, 0, none⟩ = some (.int .i64 v) := d4
  have hg0 : (W.drewN nq).cell? ⟨B1, 0, none⟩ = some (.int .i64 X0) := d0
  have hg2 : (W.drewN nq).cell? ⟨B1, 2, none⟩ = some (.int .i64 X1) := d2
  have hsz : W.heap.size ≤ (W.drewN nq).heap.size := Nat.le_refl _
  have hJ0 : J 0 (W.drewN nq) := hJ 0 _ _ h0 (Nat.le_refl _) (Seq.tick_below (Nat.le_refl _) ⟨rfl, rfl, rfl, Nat.le_refl _, fun _ _ => rfl⟩)
  clear d0 d2 d4
  generalize W.drewN nq = W1 at *
  obtain ⟨F, hF⟩ : ∃ F, lF X0 X1 = F := ⟨_, rfl⟩
  obtain ⟨L, hL⟩ : ∃ L, lL X0 X1 v = L := ⟨_, rfl⟩
  have e3 : (if (mn X0 X1 + 65536) / 65536 < 0 then 0 else (mn X0 X1 + 65536) / 65536) = F := hF
  have e4 : (if v < (mx X0 X1 - 1) / 65536 then v else (mx X0 X1 - 1) / 65536) = L := hL
  have e5 : wrap64 (L - F) = L - F := by
    unfold lF mx at hF; unfold lL mn at hL
    exact w64 (by split at hF <;> split at hL <;> omega) (by split at hF <;> split at hL <;> omega)
  have hN : Hid (lN X0 X1 v = (L - F + 1).toNat) := Lib.hid (by unfold lN; rw [hF, hL])
  have hLF : Hid (0 ≤ F ∧ F ≤ 300000 ∧ L ≤ 100000 ∧ -300000 ≤ L) := Lib.hid (by
    unfold lF mx at hF; unfold lL mn at hL
    split at hF <;> split at hL <;> omega)
  have HD := Lib.hid hd
  clear hd
  have hem := Classical.em (X0 > X1)
  rcases hem with hgt | hgt
  all_goals have HG := Lib.hid hgt
  all_goals gi_wp2
  · gi_loopw [8, 10] (fun r m wr => ∃ i : Nat, r = .int .i64 (lK X0 X1 v i) ∧ m = .int .i64 (L - F - i) ∧ i ≤ lN X0 X1 v ∧ J i wr ∧ W.heap.size ≤ wr.heap.size) (fun _ m _ => (intOf m + 1).toNat)
    case atStart => exact ⟨0, by have HN := HG.out; simp only [lK]; rw [if_pos (by omega)]; simp [hF, hL], by simp, Nat.zero_le _, hJ0, hsz⟩
    case round =>
      obtain ⟨i, rfl, rfl, hi, hJi, hs⟩ := hrel
      by_cases hlt : i < lN X0 X1 v
      · have hN2 := hN.out
        have hge : (0 : Int) ≤ L - F - i := by omega
        obtain ⟨q0, q1, _, _⟩ := line_in HD.out hlt
        have hx := Lib.hid (lns_at hlt)
        have HY := Lib.hid (hY i _ · hx.out)
        have esh : wrap64 (lK X0 X1 v i * 65536) = lK X0 X1 v i * 65536 := w64 (by omega) (by omega)
        have enx : Hid (wrap64 (lK X0 X1 v i + -1) = lK X0 X1 v (i + 1)) := Lib.hid (by rw [w64 (by omega) (by omega)]; have := HG.out; simp only [lK]; rw [if_pos (by omega), if_pos (by omega)]; omega)
        have edn : wrap64 (L - F - i - 1) = L - F - i - 1 := w64 (by omega) (by omega)
        clear hx
        generalize lK X0 X1 v i = K at *
        obtain ⟨fn, tmps, assign, body, hy2, hR⟩ := HY.out wr hs hJi
        have hR := Seq.roundIn_any (ro' := none) (n' := 0 - 1) hR
        unfold encI at hy2
        have hs2 := hs
        gi_wp2
        refine hR.mono ?_
        rintro e W3 (⟨rfl, hJ3, hk3⟩ | ⟨rfl, hJx3, _⟩)
        · gi_wp2
          go_roundw
          case rel => exact ⟨i + 1, by (have h_ := enx.out; rw [w64 (by omega) (by omega)] at h_; rw [h_]), by congr 1; omega, hlt, hJ3, Nat.le_trans hs2 hk3.1.size⟩
          case measure => simp only [intOf]; omega
        · gi_wp2
          refine bodyPost_ret (results_none rfl _ _ _) rfl ?_
          exact ⟨⟨_, rfl⟩, .inr ⟨i + 1, by rw [lns_len]; exact hlt, hJx3⟩⟩
      · obtain rfl : i = lN X0 X1 v := by omega
        have hge : ¬ (0 : Int) ≤ L - F - (lN X0 X1 v : Nat) := by have := hN.out; omega
        gi_wp2
        go_end0
        exact ⟨⟨_, rfl⟩, .inl (by rw [lns_len]; exact hJi)⟩
  · gi_loopw [8, 10] (fun r m wr => ∃ i : Nat, r = .int .i64 (lK X0 X1 v i) ∧ m = .int .i64 (L - F - i) ∧ i ≤ lN X0 X1 v ∧ J i wr ∧ W.heap.size ≤ wr.heap.size) (fun _ m _ => (intOf m + 1).toNat)
    case atStart => exact ⟨0, by have HN := HG.out; simp only [lK]; rw [if_neg (by omega)]; simp [hF, hL], by simp, Nat.zero_le _, hJ0, hsz⟩
    case round =>
      obtain ⟨i, rfl, rfl, hi, hJi, hs⟩ := hrel
      by_cases hlt : i < lN X0 X1 v
      · have hN2 := hN.out
        have hge : (0 : Int) ≤ L - F - i := by omega
        obtain ⟨q0, q1, _, _⟩ := line_in HD.out hlt
        have hx := Lib.hid (lns_at hlt)
        have HY := Lib.hid (hY i _ · hx.out)
        have esh : wrap64 (lK X0 X1 v i * 65536) = lK X0 X1 v i * 65536 := w64 (by omega) (by omega)
        have enx : Hid (wrap64 (lK X0 X1 v i + 1) = lK X0 X1 v (i + 1)) := Lib.hid (by rw [w64 (by omega) (by omega)]; have := HG.out; simp only [lK]; rw [if_neg (by omega), if_neg (by omega)]; omega)
        have edn : wrap64 (L - F - i - 1) = L - F - i - 1 := w64 (by omega) (by omega)
        clear hx
        generalize lK X0 X1 v i = K at *
        obtain ⟨fn, tmps, assign, body, hy2, hR⟩ := HY.out wr hs hJi
        have hR := Seq.roundIn_any (ro' := none) (n' := 0 - 1) hR
        unfold encI at hy2
        have hs2 := hs
        gi_wp2
        refine hR.mono ?_
        rintro e W3 (⟨rfl, hJ3, hk3⟩ | ⟨rfl, hJx3, _⟩)
        · gi_wp2
          go_roundw
          case rel => exact ⟨i + 1, by (have h_ := enx.out; rw [w64 (by omega) (by omega)] at h_; rw [h_]), by congr 1; omega, hlt, hJ3, Nat.le_trans hs2 hk3.1.size⟩
          case measure => simp only [intOf]; omega
        · gi_wp2
          refine bodyPost_ret (results_none rfl _ _ _) rfl ?_
          exact ⟨⟨_, rfl⟩, .inr ⟨i + 1, by rw [lns_len]; exact hlt, hJx3⟩⟩
      · obtain rfl : i = lN X0 X1 v := by omega
        have hge : ¬ (0 : Int) ≤ L - F - (lN X0 X1 v : Nat) := by have := hN.out; omega
        gi_wp2
        go_end0
        exact ⟨⟨_, rfl⟩, .inl (by rw [lns_len]; exact hJi)⟩
end Go.Proofs.Ytejcjonlnijbkaa.Cell

/- Package cell's Cuts, walked: the iterator hands a strip's pieces, in order. It keeps the piece in a cell of its own. For all strips and widths that may be asked about. -/
namespace Go.Proofs.Ytejcjonlnijbkaa.Cell
open Go Go.RowKit Go.Shelf Range Go.Proofs.Ytejcjonlnijbkaa.PE Go.Proofs.YtejcjonlnijbkaaW.PrintWords Go.Proofs.YtejcjonlnijbkaaW.PrintLast Go.Proofs.YtejcjonlnijbkaaW.PrintMore Go.Proofs.Ytejcjonlnijbkaa.Num
set_option maxRecDepth 100000
set_option linter.unusedVariables false
set_option linter.unusedSimpArgs false
attribute [local go_sem] Oper.semAt_some

def encP (p : Pc) : Array Value := #[.agg #[.int .i64 p.f0, .int .i64 p.f1, .int .i64 p.f2, .int .i64 p.f3]]
theorem cuts_calls (X0 Y0 X1 Y1 v : Int) (w : World) : Calls Try.prog 70 #[.agg #[.int .i64 X0, .int .i64 Y0, .int .i64 X1, .int .i64 Y1], .int .i64 v] w fun e w' => e = .returned (.func (.func 78) #[] #[.pointer (some ⟨w.heap.size, 0, none⟩), .pointer (some ⟨w.heap.size + 1, 0, none⟩)]) ∧ w' = (w.alloc (.cells #[.int .i64 X0, .int .i64 Y0, .int .i64 X1, .int .i64 Y1] 100)).alloc (.cells #[.int .i64 v] 3) := by
  go_enter Try.func70, Try.ntmps70
  go_wp2
  go_ret
  exact ⟨by simp, rfl⟩

section
variable {W A : World} {b : Nat}
/-- A variable of four numbers in memory. -/
def Four (W : World) (b : Nat) (a c d e : Int) : Prop := W.cell? ⟨b, 0, none⟩ = some (.int .i64 a) ∧ W.cell? ⟨b, 1, none⟩ = some (.int .i64 c) ∧ W.cell? ⟨b, 2, none⟩ = some (.int .i64 d) ∧ W.cell? ⟨b, 3, none⟩ = some (.int .i64 e)
def Free4 (W : World) (b : Nat) : Prop := W.frozen? ⟨b, 0, none⟩ = false ∧ W.frozen? ⟨b, 1, none⟩ = false ∧ W.frozen? ⟨b, 2, none⟩ = false ∧ W.frozen? ⟨b, 3, none⟩ = false
theorem Four.of {a c d e : Int} (h : Four W b a c d e) (hh : A.heap[b]? = W.heap[b]?) : Four A b a c d e :=
  ⟨(World.cell?_of_block (w := W) (a := ⟨b, 0, none⟩) hh).trans h.1, (World.cell?_of_block (w := W) (a := ⟨b, 1, none⟩) hh).trans h.2.1, (World.cell?_of_block (w := W) (a := ⟨b, 2, none⟩) hh).trans h.2.2.1, (World.cell?_of_block (w := W) (a := ⟨b, 3, none⟩) hh).trans h.2.2.2⟩
theorem Free4.of (h : Free4 W b) (hh : A.heap[b]? = W.heap[b]?) : Free4 A b :=
  ⟨(World.frozen?_of_block (w := W) (a := ⟨b, 0, none⟩) hh).trans h.1, (World.frozen?_of_block (w := W) (a := ⟨b, 1, none⟩) hh).trans h.2.1, (World.frozen?_of_block (w := W) (a := ⟨b, 2, none⟩) hh).trans h.2.2.1, (World.frozen?_of_block (w := W) (a := ⟨b, 3, none⟩) hh).trans h.2.2.2⟩
theorem Four.kept {a c d e : Int} {row : Option Nat} (h : Four W b a c d e) (hg : W.grownBy A row) (hr : ∀ r, row = some r → ∃ o, W.heap[r]? = some o ∧ o.isCells = false) : Four A b a c d e :=
  ⟨cell_kept h.1 hg hr, cell_kept h.2.1 hg hr, cell_kept h.2.2.1 hg hr, cell_kept h.2.2.2 hg hr⟩
theorem Free4.kept {a c d e : Int} {row : Option Nat} (h : Free4 W b) (hc : Four W b a c d e) (hg : W.grownBy A row) (hr : ∀ r, row = some r → ∃ o, W.heap[r]? = some o ∧ o.isCells = false) : Free4 A b :=
  ⟨(frozen_kept hc.1 hg hr).trans h.1, (frozen_kept hc.2.1 hg hr).trans h.2.1, (frozen_kept hc.2.2.1 hg hr).trans h.2.2.1, (frozen_kept hc.2.2.2 hg hr).trans h.2.2.2⟩
end

set_option maxHeartbeats 8000000 in
theorem cuts_gives (n₀ B1 B2 : Nat) (X0 Y0 X1 Y1 v : Int) (hd : Dom X0 Y0 X1 Y1 v) (w : World) (hn : n₀ ≤ w.heap.size) (hb1 : B1 < w.heap.size) (hb2 : B2 < w.heap.size) (c0 : Four w B1 X0 Y0 X1 Y1) (c4 : w.cell? ⟨B2, 0, none⟩ = some (.int .i64 v)) :
    SeqN.Gives Try.prog 6 78 #[.pointer (some ⟨B1, 0, none⟩), .pointer (some ⟨B2, 0, none⟩)] encP n₀ [B1, B2] (cuts X0 Y0 X1 Y1 v) w := by
  intro l J Jx W hW hJ hJx hY h0
  have hB1 := Nat.lt_of_lt_of_le hb1 hW.size
  have hB2 := Nat.lt_of_lt_of_le hb2 hW.size
  have hn := Nat.le_trans hn hW.size
  have D0 : Four W B1 X0 Y0 X1 Y1 := c0.of (hW.block B1 hb1)
  have d4 := (hW.cell (p := ⟨B2, 0, none⟩) hb2).trans c4
  clear hW hb1 hb2 c0 c4
  have LN := Lib.hid (fun w => lines_calls X0 Y0 X1 Y1 v w)
  have LG := Lib.hid (fun B1 B2 w h1 h2 h3 h4 h5 => SeqN.of_plain (lines_gives n₀ B1 B2 X0 Y0 X1 Y1 v hd w h1 h2 h3 h4 h5))
  obtain ⟨d0, d1, d2, d3⟩ := D0
  refine callsIn_of_wp_marks Try.func78 rfl trivial ?_ rfl
  simp only [Try.ntmps78, List.size_toArray, List.length_cons, List.length_nil, Nat.reduceAdd, Nat.reduceSub, Array.replicate_succ, Array.replicate_zero, List.push_toArray, List.append_toArray, List.nil_append, List.cons_append]
  gi_wp2_with (gi_at_call 79; refine (Seq.of_calls (LN.out _)).mono ?_; rintro e w1 ⟨rfl, rfl⟩)
  obtain ⟨W0, hW0⟩ : ∃ W0, ((((W.alloc (.cells #[.func (.yield l) #[] #[]] 147)).alloc (.cells #[.int .i64 X0, .int .i64 Y0, .int .i64 X1, .int .i64 Y1] 100)).alloc (.cells #[.int .i64 X0, .int .i64 Y0, .int .i64 X1, .int .i64 Y1] 100)).alloc (.cells #[.int .i64 v] 3)) = W0 := ⟨_, rfl⟩
  have HB : Below W.heap.size W W0 := by rw [← hW0]; exact ((((Below.refl _ W).alloc (Nat.le_refl _) _).alloc (by simp) _).alloc (by simp; omega) _).alloc (by simp; omega) _
  have hsz : W0.heap.size = W.heap.size + 4 := by rw [← hW0]; simp
  have k0 : W0.cell? ⟨W.heap.size, 0, none⟩ = some (.func (.yield l) #[] #[]) := by subst hW0; go_simp
  have k1 : Four W0 (W.heap.size + 1) X0 Y0 X1 Y1 := by subst hW0; exact ⟨by go_simp, by go_simp, by go_simp, by go_simp⟩
  have k2 : Free4 W0 (W.heap.size + 1) := by subst hW0; exact ⟨by go_simp, by go_simp, by go_simp, by go_simp⟩
  have q0 : W0.cell? ⟨W.heap.size + 2, 0, none⟩ = some (.int .i64 X0) := by subst hW0; go_simp
  have q2 : W0.cell? ⟨W.heap.size + 2, 2, none⟩ = some (.int .i64 X1) := by subst hW0; go_simp
  have q4 : W0.cell? ⟨W.heap.size + 3, 0, none⟩ = some (.int .i64 v) := by subst hW0; go_simp
  have qk : ∀ b ∈ [B1, B2], W0.heap[b]? = W.heap[b]? := fun b hb => HB.block b (by simp at hb; rcases hb with rfl | rfl <;> assumption)
  rw [hW0]
  clear hW0
  refine KdX.with_frame fun T hT => ?_
  have HBi : ∀ k A A', J k A → W.heap.size ≤ A.heap.size → SeqN.Win 6 W.heap.size A A' → J k A' := hJ
  have HBx : ∀ k A A', Jx k A → W.heap.size ≤ A.heap.size → SeqN.Win 6 W.heap.size A A' → Jx k A' := hJx
  refine SeqN.range_ax (N := 0) (n₀ := n₀) (by rw [hT]; rfl) (enters_of Try.func90 (by kernel_rfl) rfl) (LG.out (W.heap.size + 2) (W.heap.size + 3) W0 (by omega) (by omega) q0 q2 q4) (by omega) (fun b hb => by simp at hb) (Below.refl _ _) (fun _ => rfl)
    (fun k V => (J k V ∧ W0.heap.size ≤ V.heap.size) ∧ V.cell? ⟨W.heap.size, 0, none⟩ = some (.func (.yield l) #[] #[]) ∧ (∃ d e, Four V (W.heap.size + 1) (pX X0 X1 v k) (pY X0 Y0 X1 Y1 v k) d e) ∧ Free4 V (W.heap.size + 1) ∧ ∀ b ∈ [B1, B2], V.heap[b]? = W.heap[b]?)
    (fun c k V => c = .ret ∧ Jx k V ∧ W0.heap.size ≤ V.heap.size)
    (fun k A B hs hA hw => by
      obtain ⟨⟨h1, h2⟩, h3, ⟨d, e, h4⟩, h5, h6⟩ := hs
      have hw2 : SeqN.Win 6 W.heap.size A B := hw.mono (by omega) (by omega)
      have hP := hw.block (W.heap.size + 1) (by omega) (.inl (by omega))
      exact ⟨⟨HBi k A B h1 (by omega) hw2, Nat.le_trans h2 hw.size⟩, (hw.cell (p := ⟨W.heap.size, 0, none⟩) (by simp; omega) (.inl (by simp; omega))).trans h3, ⟨d, e, h4.of hP⟩, h5.of hP, fun b hb => (hw.block b (by simp at hb; omega) (.inl (by simp at hb; omega))).trans (h6 b hb)⟩)
    (fun c k A B hs hA hw => by
      obtain ⟨h1, h2, h3⟩ := hs
      exact ⟨h1, HBx k A B h2 (by omega) (hw.mono (by omega) (by omega)), Nat.le_trans h3 hw.size⟩)
    ⟨⟨HBi 0 _ _ h0 (Nat.le_refl _) (SeqN.Win.of_below HB), Nat.le_refl _⟩, k0, ⟨X1, Y1, by simp only [pX, pY]; exact k1⟩, k2, qk⟩
    (fun x a' _ => a' = { tmps := ((T.setIfInBounds 10 (.int .i64 x)).setIfInBounds 5 (.int .i64 x)), defers := [] }) (fun _ _ _ _ _ _ hs _ _ => hs) ?assign ?body ?done ?stop
  case assign =>
    intro l' k x V K hx hz hI hK
    subst hT
    unfold encI
    simp
    gi_wp2
    exact hK _ _ SeqN.KeptN.refl hI rfl
  case body =>
    rintro l' k x a' V hl ⟨r, hr⟩ hx hz ⟨⟨i1, i2⟩, i3, ⟨d, e, i4, i5, i6, i7⟩, ⟨f4, f5, f6, f7⟩, i8⟩ rfl
    subst hl
    subst hT
    have hk : k < lN X0 X1 v := by have := (List.getElem?_eq_some_iff.1 hx).1; rwa [lns_len] at this
    have hxe : x = lK X0 X1 v k * 65536 := by rw [lns_at hk] at hx; exact (Option.some.inj hx).symm
    have hpx : Hid (pX X0 X1 v (k + 1) = x) := Lib.hid (by unfold pX; rw [if_neg (by omega), if_pos (by omega), hxe]; rfl)
    have hpy : Hid (pY X0 Y0 X1 Y1 v (k + 1) = hAt X0 Y0 X1 Y1 x) := Lib.hid (by unfold pY; rw [if_neg (by omega), if_pos (by omega), hxe]; rfl)
    have HT := Lib.hid (fun w => cell_height.calls X0 Y0 X1 Y1 x _ w (height_f hd (by rw [hxe]; exact line_lt hd hk)))
    have hc := Lib.hid (cuts_at (Y0 := Y0) (Y1 := Y1) (show k < lN X0 X1 v + 1 by omega))
    have HY := Lib.hid (hY k _ · hc.out)
    have hpc : piece X0 Y0 X1 Y1 v k = ⟨pX X0 X1 v k, pY X0 Y0 X1 Y1 v k, x, hAt X0 Y0 X1 Y1 x⟩ := by unfold piece; rw [hpx.out, hpy.out]
    rw [hpc] at HY
    obtain ⟨g0, g1, g2, g3⟩ := (show Four W B1 X0 Y0 X1 Y1 from ⟨d0, d1, d2, d3⟩).of (i8 B1 (by simp))
    clear hx hc hpc hxe
    generalize pX X0 X1 v k = a at *
    generalize pY X0 Y0 X1 Y1 v k = c at *
    generalize hAt X0 Y0 X1 Y1 x = y at *
    have hlt0 : W.heap.size < V.heap.size := by omega
    have hlt1 : W.heap.size + 1 < V.heap.size := by omega
    have hlb : ∀ b ∈ [B1, B2], b < V.heap.size := fun b hb => by simp at hb; omega
    simp
    gi_wp2_with (gi_at_call 80; refine (Seq.of_calls (HT.out _)).mono ?_; rintro e2 w2 ⟨rfl, hb2⟩; have m3 := (hb2.cell (p := ⟨W.heap.size, 0, none⟩) hlt0).trans i3; have m4 := (hb2.cell (p := ⟨W.heap.size + 1, 0, none⟩) hlt1).trans i4; have m5 := (hb2.cell (p := ⟨W.heap.size + 1, 1, none⟩) hlt1).trans i5; have m6 := (hb2.cell (p := ⟨W.heap.size + 1, 2, none⟩) hlt1).trans i6; have m7 := (hb2.cell (p := ⟨W.heap.size + 1, 3, none⟩) hlt1).trans i7; have o4 := (hb2.frozen (p := ⟨W.heap.size + 1, 0, none⟩) hlt1).trans f4; have o5 := (hb2.frozen (p := ⟨W.heap.size + 1, 1, none⟩) hlt1).trans f5; have o6 := (hb2.frozen (p := ⟨W.heap.size + 1, 2, none⟩) hlt1).trans f6; have o7 := (hb2.frozen (p := ⟨W.heap.size + 1, 3, none⟩) hlt1).trans f7)
    obtain ⟨W2, hW2⟩ : ∃ W2, (w2.setCell ⟨W.heap.size + 1, 2, none⟩ (.int .i64 x)).setCell ⟨W.heap.size + 1, 3, none⟩ (.int .i64 y) = W2 := ⟨_, rfl⟩
    have hV2 : V.heap.size ≤ w2.heap.size := hb2.size
    have hs2 : W2.heap.size = w2.heap.size := by rw [← hW2]; simp
    have hE2 : SeqN.Win 6 W.heap.size V W2 := by rw [← hW2]; exact ((SeqN.Win.of_below hb2).trans (SeqN.Win.set (by simp) (by simp) _)).trans (SeqN.Win.set (by simp) (by simp) _)
    have hK2 : ∀ b, W0.heap.size ≤ b → b < V.heap.size → W2.heap[b]? = V.heap[b]? := fun b h1 h2 => by rw [← hW2]; exact (Below.heap_setCell _ _ _ b (by simp; omega)).trans ((Below.heap_setCell _ _ _ b (by simp; omega)).trans (hb2.block b h2))
    have n3 : W2.cell? ⟨W.heap.size, 0, none⟩ = some (.func (.yield l) #[] #[]) := by subst hW2; go_simp
    have n4 : Four W2 (W.heap.size + 1) a c x y := by subst hW2; exact ⟨by go_simp, by go_simp, by go_simp, by go_simp⟩
    have n5 : Free4 W2 (W.heap.size + 1) := by subst hW2; exact ⟨by go_simp, by go_simp, by go_simp, by go_simp⟩
    have n8 : ∀ b ∈ [B1, B2], W2.heap[b]? = W.heap[b]? := fun b hb => (hE2.block b (by simp at hb; omega) (.inl (by simp at hb; omega))).trans (i8 b hb)
    rw [hW2]
    clear hW2
    obtain ⟨fn, tmps, assign, body, hy2, hR⟩ := HY.out W2 (by omega) (HBi k V W2 i1 (by omega) hE2)
    have hR := Seq.roundIn_any (ro' := some (W0.heap.size + 1)) (n' := 0 - 1) hR
    unfold encP at hy2
    rw [hy2]
    gi_wp2
    refine hR.mono ?_
    rintro e3 W3 (⟨rfl, hJ3, hk3⟩ | ⟨rfl, hJx3, hk3⟩)
    all_goals
      have hs3 := hk3.1.size
      have hE3 : Below n₀ V W3 := (hE2.below hn (by omega)).trans hk3.1
      have hP3 := hk3.2.1 (W.heap.size + 1) (by omega) (by omega) (by omega)
      have p3 := (World.cell?_of_block (w := W2) (a := ⟨W.heap.size, 0, none⟩) (hk3.2.1 W.heap.size (by omega) (by omega) (by omega))).trans n3
      obtain ⟨p4, p5, p6, p7⟩ := n4.of hP3
      obtain ⟨o4', o5', o6', o7'⟩ := n5.of hP3
      have p8 : ∀ b ∈ [B1, B2], W3.heap[b]? = W.heap[b]? := fun b hb => (hk3.2.2 b hb).trans (n8 b hb)
      gi_wp2
    · obtain ⟨W4, hW4⟩ : ∃ W4, (W3.setCell ⟨W.heap.size + 1, 0, none⟩ (.int .i64 x)).setCell ⟨W.heap.size + 1, 1, none⟩ (.int .i64 y) = W4 := ⟨_, rfl⟩
      have hE4 : SeqN.Win 6 W.heap.size W3 W4 := by subst hW4; exact (SeqN.Win.set (by simp) (by simp) _).trans (SeqN.Win.set (by simp) (by simp) _)
      have hK4 : ∀ b, W0.heap.size ≤ b → b < W3.heap.size → W4.heap[b]? = W3.heap[b]? := fun b h1 h2 => by subst hW4; exact (Below.heap_setCell _ _ _ b (by simp; omega)).trans (Below.heap_setCell _ _ _ b (by simp; omega))
      have u3 : W4.cell? ⟨W.heap.size, 0, none⟩ = some (.func (.yield l) #[] #[]) := by subst hW4; go_simp
      have u4 : Four W4 (W.heap.size + 1) x y x y := by subst hW4; exact ⟨by go_simp, by go_simp, by go_simp, by go_simp⟩
      have u5 : Free4 W4 (W.heap.size + 1) := by subst hW4; exact ⟨by go_simp, by go_simp, by go_simp, by go_simp⟩
      have u8 : ∀ b ∈ [B1, B2], W4.heap[b]? = W.heap[b]? := fun b hb => (hE4.block b (by simp at hb; omega) (.inl (by simp at hb; omega))).trans (p8 b hb)
      rw [hW4]
      have hs4 := hE4.size
      exact ⟨⟨hE3.trans (hE4.below hn (by omega)), fun b h1 h2 h3 => (hK4 b h1 (by omega)).trans ((hk3.2.1 b (by omega) (by omega) (by omega)).trans (hK2 b h1 h3)), fun b hb => by simp at hb⟩, ⟨HBi _ _ _ hJ3 (by omega) hE4, by omega⟩, u3, ⟨x, y, by rw [hpx.out, hpy.out]; exact u4⟩, u5, u8 B1 (by simp), u8 B2 (by simp)⟩
    · exact ⟨⟨hE3, fun b h1 h2 h3 => (hk3.2.1 b (by omega) (by omega) (by omega)).trans (hK2 b h1 h3), fun b hb => by simp at hb⟩, rfl, hJx3, by omega⟩
  case done =>
    rintro V hz ⟨⟨i1, i2⟩, i3, ⟨d, e, i4, i5, i6, i7⟩, ⟨f4, f5, f6, f7⟩, i8⟩ hK
    subst hT
    rw [lns_len] at i1 i4 i5
    have hpx : pX X0 X1 v (lN X0 X1 v + 1) = X1 := by unfold pX; rw [if_neg (by omega), if_neg (by omega)]
    have hpy : pY X0 Y0 X1 Y1 v (lN X0 X1 v + 1) = Y1 := by unfold pY; rw [if_neg (by omega), if_neg (by omega)]
    have hc := Lib.hid (cuts_at (Y0 := Y0) (Y1 := Y1) (show lN X0 X1 v < lN X0 X1 v + 1 by omega))
    have HY := Lib.hid (hY (lN X0 X1 v) _ · hc.out)
    have hpc : piece X0 Y0 X1 Y1 v (lN X0 X1 v) = ⟨pX X0 X1 v (lN X0 X1 v), pY X0 Y0 X1 Y1 v (lN X0 X1 v), X1, Y1⟩ := by unfold piece; rw [hpx, hpy]
    rw [hpc] at HY
    obtain ⟨g0, g1, g2, g3⟩ := (show Four W B1 X0 Y0 X1 Y1 from ⟨d0, d1, d2, d3⟩).of (i8 B1 (by simp))
    clear hc hpc hpx hpy
    generalize pX X0 X1 v (lN X0 X1 v) = a at *
    generalize pY X0 Y0 X1 Y1 v (lN X0 X1 v) = c at *
    have hlt0 : W.heap.size < V.heap.size := by omega
    have hlt1 : W.heap.size + 1 < V.heap.size := by omega
    gi_wp2
    refine (show Code.wpIn Fence.wide _ _ _ _ _ _ from wpIn_wide.2 ?_)
    go_region
    obtain ⟨V2, hV2⟩ : ∃ V2, ((V.setCell ⟨W.heap.size + 1, 2, none⟩ (.int .i64 X1)).setCell ⟨W.heap.size + 1, 3, none⟩ (.int .i64 Y1)).drew = V2 := ⟨_, rfl⟩
    have hs2 : V2.heap.size = V.heap.size := by subst hV2; simp
    have hE2 : SeqN.Win 6 W.heap.size V V2 := by subst hV2; exact ((SeqN.Win.set (by simp) (by simp) _).trans (SeqN.Win.set (by simp) (by simp) _)).trans (SeqN.Win.of_below ((Below.refl _ _).drew))
    have n3 : V2.cell? ⟨W.heap.size, 0, none⟩ = some (.func (.yield l) #[] #[]) := by subst hV2; go_simp
    obtain ⟨n4, n5, n6, n7⟩ : Four V2 (W.heap.size + 1) a c X1 Y1 := by subst hV2; exact ⟨by go_simp, by go_simp, by go_simp, by go_simp⟩
    have hD2 : V2.heap[W0.heap.size]? = some (.deferred (some [])) := by subst hV2; exact ((Below.heap_setCell _ _ _ _ (by simp; omega)).trans (Below.heap_setCell _ _ _ _ (by simp; omega))).trans hK
    rw [hV2]
    clear hV2 hK
    gi_wp2
    obtain ⟨fn, tmps, assign, body, hy2, hR⟩ := HY.out V2 (by omega) (HBi _ V V2 i1 (by omega) hE2)
    have hR := Seq.roundIn_any (ro' := none) (n' := 0 - 1) hR
    unfold encP at hy2
    rw [hy2]
    gi_wp2
    refine hR.mono ?_
    rintro e3 W3 (⟨rfl, hJ3, hk3⟩ | ⟨rfl, hJx3, hk3⟩)
    all_goals
      have hs3 := hk3.1.size
      have hD3 : W3.heap[W0.heap.size]? = some (.deferred (some [])) := (hk3.2.1 W0.heap.size (by omega) (by omega) (Array.getElem?_eq_some_iff.1 hD2).1).trans hD2
      have hP3 : SeqN.Win 6 W.heap.size W3 (W3.putObj W0.heap.size (.deferred none)) := SeqN.Win.put (by omega) (by omega) _
      rw [hsz] at hD3 hP3
      gi_wp2
      refine ⟨by simp, .inl ⟨_, _, rfl, run_takeDeferred hD3, ?_⟩⟩
    · exact ⟨.tuple #[], by simp [results, Try.f78, go_sem], ⟨_, rfl⟩, .inl (by rw [cuts_len]; exact HBi _ _ _ hJ3 (by omega) hP3)⟩
    · exact ⟨.tuple #[], by simp [results, Try.f78, go_sem], ⟨_, rfl⟩, .inr ⟨lN X0 X1 v + 1, by rw [cuts_len]; omega, HBx _ _ _ hJx3 (by omega) hP3⟩⟩
  case stop =>
    rintro c k V hk hz ⟨rfl, hx, hs⟩ hK
    subst hT
    rw [lns_len] at hk
    gi_wp2
    refine ⟨by simp, .inl ⟨_, _, rfl, run_takeDeferred hK, ?_⟩⟩
    refine ⟨.tuple #[], by simp [results, Try.f78, go_sem], ⟨_, rfl⟩, .inr ⟨k, by rw [cuts_len]; omega, HBx k _ _ hx (by omega) (SeqN.Win.put (by omega) (by omega) _)⟩⟩
end Go.Proofs.Ytejcjonlnijbkaa.Cell

/- Package cell's All, walked: the iterator hands a strip's cells, in order. For all strips and widths that may be asked about. -/
namespace Go.Proofs.Ytejcjonlnijbkaa.Cell
open Go Go.RowKit Go.Shelf Range Go.Proofs.Ytejcjonlnijbkaa.PE Go.Proofs.YtejcjonlnijbkaaW.PrintWords Go.Proofs.YtejcjonlnijbkaaW.PrintLast Go.Proofs.YtejcjonlnijbkaaW.PrintMore Go.Proofs.Ytejcjonlnijbkaa.Num
set_option maxRecDepth 100000
set_option linter.unusedVariables false
set_option linter.unusedSimpArgs false
attribute [local go_sem] Oper.semAt_some max2_int min2_int max_two min_two

def encC (c : Cl) : Array Value := #[.int .i64 c.f0, .agg #[.int .i64 c.f1.f0, .int .i64 c.f1.f1]]
theorem all_calls (X0 Y0 X1 Y1 v : Int) (w : World) : Calls Try.prog 57 #[.agg #[.int .i64 X0, .int .i64 Y0, .int .i64 X1, .int .i64 Y1], .int .i64 v] w fun e w' => e = .returned (.func (.func 69) #[] #[.pointer (some ⟨w.heap.size, 0, none⟩), .pointer (some ⟨w.heap.size + 1, 0, none⟩)]) ∧ w' = (w.alloc (.cells #[.int .i64 X0, .int .i64 Y0, .int .i64 X1, .int .i64 Y1] 100)).alloc (.cells #[.int .i64 v] 3) := by
  go_enter Try.func57, Try.ntmps57
  go_wp2
  go_ret
  exact ⟨by simp, rfl⟩
theorem new4 (w : World) (x : Pc) (t : TypeId) : ∀ j u, ([.int .i64 x.f0, .int .i64 x.f1, .int .i64 x.f2, .int .i64 x.f3] : List Value)[j]? = some u → (w.alloc (.cells #[.int .i64 x.f0, .int .i64 x.f1, .int .i64 x.f2, .int .i64 x.f3] t)).cell? ⟨w.heap.size, j, none⟩ = some u := by
  intro j u hj
  match j, hj with
  | 0, hj => simp at hj ⊢; exact hj
  | 1, hj => simp at hj ⊢; exact hj
  | 2, hj => simp at hj ⊢; exact hj
  | 3, hj => simp at hj ⊢; exact hj
theorem cuts_mem {X0 Y0 X1 Y1 w : Int} (hd : Dom X0 Y0 X1 Y1 w) {k : Nat} {x : Pc} (hx : (cuts X0 Y0 X1 Y1 w)[k]? = some x) : (-17179869184 ≤ x.f0 ∧ x.f0 ≤ 17179869184) ∧ (0 ≤ x.f1 ∧ x.f1 ≤ 65536) ∧ (-17179869184 ≤ x.f2 ∧ x.f2 ≤ 17179869184) ∧ 0 ≤ x.f3 ∧ x.f3 ≤ 65536 := by
  have hk := (List.getElem?_eq_some_iff.1 hx).1
  rw [cuts_len] at hk
  rw [cuts_at hk] at hx
  obtain rfl := Option.some.inj hx
  obtain ⟨a1, a2⟩ := pX_in hd k
  obtain ⟨b1, b2⟩ := pX_in hd (k + 1)
  obtain ⟨c1, c2⟩ := pY_in hd k
  obtain ⟨e1, e2⟩ := pY_in hd (k + 1)
  have h0 := hd.x0
  have h1 := hd.x1
  have h2 := hd.y0
  have h3 := hd.y1
  show (_ ≤ pX X0 X1 w k ∧ pX X0 X1 w k ≤ _) ∧ (_ ≤ pY X0 Y0 X1 Y1 w k ∧ pY X0 Y0 X1 Y1 w k ≤ _) ∧ (_ ≤ pX X0 X1 w (k + 1) ∧ pX X0 X1 w (k + 1) ≤ _) ∧ _ ≤ pY X0 Y0 X1 Y1 w (k + 1) ∧ pY X0 Y0 X1 Y1 w (k + 1) ≤ _
  generalize pX X0 X1 w k = a at *
  generalize pX X0 X1 w (k + 1) = b at *
  generalize pY X0 Y0 X1 Y1 w k = c at *
  generalize pY X0 Y0 X1 Y1 w (k + 1) = e at *
  unfold mn at a1 b1 c1 e1
  unfold mx at a2 b2 c2 e2
  (repeat' split at a1) <;> (repeat' split at a2) <;> (repeat' split at b1) <;> (repeat' split at b2) <;> (repeat' split at c1) <;> (repeat' split at c2) <;> (repeat' split at e1) <;> (repeat' split at e2) <;> omega
theorem mul_in {a b : Int} (ha : -65536 ≤ a ∧ a ≤ 65536) (hb : -68719476736 ≤ b ∧ b ≤ 68719476736) : -4503599627370496 ≤ a * b ∧ a * b ≤ 4503599627370496 := by
  have h1 : (a * b).natAbs ≤ 65536 * 68719476736 := by rw [Int.natAbs_mul]; exact Nat.mul_le_mul (by omega) (by omega)
  omega
theorem cuts_short {X0 Y0 X1 Y1 w : Int} (hd : Dom X0 Y0 X1 Y1 w) : (cuts X0 Y0 X1 Y1 w).length ≤ 1000000 := by
  rw [cuts_len]; have := lN_le hd; have := hd.w1; omega
theorem drop_none {α β : Type} {f : α → Option β} {xs : List α} {k m : Nat} {x : α} (hx : xs[k]? = some x) (hf : f x = none) (hd : (xs.filterMap f).drop m = (xs.drop k).filterMap f) : (xs.filterMap f).drop m = (xs.drop (k + 1)).filterMap f := by
  obtain ⟨hk, rfl⟩ := List.getElem?_eq_some_iff.1 hx
  rw [hd, List.drop_eq_getElem_cons hk, List.filterMap_cons, hf]
theorem drop_some {α β : Type} {f : α → Option β} {xs : List α} {k m : Nat} {x : α} {y : β} (hx : xs[k]? = some x) (hf : f x = some y) (hd : (xs.filterMap f).drop m = (xs.drop k).filterMap f) : (xs.filterMap f)[m]? = some y ∧ (xs.filterMap f).drop (m + 1) = (xs.drop (k + 1)).filterMap f := by
  obtain ⟨hk, rfl⟩ := List.getElem?_eq_some_iff.1 hx
  rw [List.drop_eq_getElem_cons hk, List.filterMap_cons, hf] at hd
  constructor
  · have := congrArg (·[0]?) hd; simpa using this
  · have := congrArg List.tail hd; simpa using this

set_option maxHeartbeats 8000000 in
theorem all_gives (n₀ B1 B2 : Nat) (X0 Y0 X1 Y1 v : Int) (hd : Dom X0 Y0 X1 Y1 v) (w : World) (hn : n₀ ≤ w.heap.size) (hb1 : B1 < w.heap.size) (hb2 : B2 < w.heap.size) (c0 : Four w B1 X0 Y0 X1 Y1) (c4 : w.cell? ⟨B2, 0, none⟩ = some (.int .i64 v)) :
    SeqN.Gives Try.prog 11 69 #[.pointer (some ⟨B1, 0, none⟩), .pointer (some ⟨B2, 0, none⟩)] encC n₀ [B1, B2] (cells X0 Y0 X1 Y1 v) w := by
  intro l J Jx W hW hJ hJx hY h0
  have hB1 := Nat.lt_of_lt_of_le hb1 hW.size
  have hB2 := Nat.lt_of_lt_of_le hb2 hW.size
  have hn := Nat.le_trans hn hW.size
  have D0 : Four W B1 X0 Y0 X1 Y1 := c0.of (hW.block B1 hb1)
  have d4 := (hW.cell (p := ⟨B2, 0, none⟩) hb2).trans c4
  clear hW hb1 hb2 c0 c4
  have CU := Lib.hid (fun w => cuts_calls X0 Y0 X1 Y1 v w)
  have CG := Lib.hid (fun B1 B2 => cuts_gives n₀ B1 B2 X0 Y0 X1 Y1 v hd)
  obtain ⟨d0, d1, d2, d3⟩ := D0
  have HBi : ∀ k A A', J k A → W.heap.size ≤ A.heap.size → SeqN.Win 11 W.heap.size A A' → J k A' := hJ
  have HBx : ∀ k A A', Jx k A → W.heap.size ≤ A.heap.size → SeqN.Win 11 W.heap.size A A' → Jx k A' := hJx
  refine callsIn_of_wp_marks Try.func69 rfl trivial ?_ rfl
  simp only [Try.ntmps69, List.size_toArray, List.length_cons, List.length_nil, Nat.reduceAdd, Nat.reduceSub, Array.replicate_succ, Array.replicate_zero, List.push_toArray, List.append_toArray, List.nil_append, List.cons_append]
  gi_wp2
  refine (show Code.wpIn Fence.wide 0 _ _ _ _ _ from wpIn_wide.2 (wp_scope_straight (wpIn_wide (n := 0).1 ?_)))
  show Code.wpIn (Seq.wideR none) 0 _ _ _ _ _
  apply wpIn_seq_k
  intro K hK
  apply wpIn_label
  apply hK
  clear hK K
  gi_wp2_with (gi_at_call 70; refine (Seq.of_calls (CU.out _)).mono ?_; rintro e w1 ⟨rfl, rfl⟩)
  obtain ⟨W0, hW0⟩ : ∃ W0, (((W.alloc (.cells #[.func (.yield l) #[] #[]] 134)).alloc (.cells #[.int .i64 X0, .int .i64 Y0, .int .i64 X1, .int .i64 Y1] 100)).alloc (.cells #[.int .i64 v] 3)) = W0 := ⟨_, rfl⟩
  have HB : Below W.heap.size W W0 := by rw [← hW0]; exact (((Below.refl _ W).alloc (Nat.le_refl _) _).alloc (by simp) _).alloc (by simp; omega) _
  have hsz : W0.heap.size = W.heap.size + 3 := by rw [← hW0]; simp
  have k0 : W0.cell? ⟨W.heap.size, 0, none⟩ = some (.func (.yield l) #[] #[]) := by subst hW0; go_simp
  have k1 : Four W0 (W.heap.size + 1) X0 Y0 X1 Y1 := by subst hW0; exact ⟨by go_simp, by go_simp, by go_simp, by go_simp⟩
  have q4 : W0.cell? ⟨W.heap.size + 2, 0, none⟩ = some (.int .i64 v) := by subst hW0; go_simp
  have qk : ∀ b ∈ [B1, B2], W0.heap[b]? = W.heap[b]? := fun b hb => HB.block b (by simp at hb; rcases hb with rfl | rfl <;> assumption)
  rw [hW0]
  clear hW0
  have CE : cells X0 Y0 X1 Y1 v = (cuts X0 Y0 X1 Y1 v).filterMap (cellOf v) := rfl
  refine KdX.with_frame fun T hT => ?_
  refine SeqN.range_ax (N := 6) (n₀ := n₀) (by rw [hT]; rfl) (enters_of Try.func78 (by kernel_rfl) rfl) (CG.out (W.heap.size + 1) (W.heap.size + 2) W0 (by omega) (by omega) (by omega) k1 q4) (by omega) (fun b hb => by simp at hb; omega) (Below.refl _ _) (fun _ => rfl)
    (fun k V => (∃ m, J m V ∧ (cells X0 Y0 X1 Y1 v).drop m = ((cuts X0 Y0 X1 Y1 v).drop k).filterMap (cellOf v) ∧ m ≤ (cells X0 Y0 X1 Y1 v).length) ∧ W0.heap.size ≤ V.heap.size ∧ V.cell? ⟨W.heap.size, 0, none⟩ = some (.func (.yield l) #[] #[]) ∧ ∀ b ∈ [B1, B2], V.heap[b]? = W.heap[b]?)
    (fun c k V => c = .ret ∧ (∃ m, m ≤ (cells X0 Y0 X1 Y1 v).length ∧ Jx m V) ∧ W0.heap.size ≤ V.heap.size)
    (fun k A B hs hA hw => by
      obtain ⟨⟨m, h1, h2, h3⟩, h4, h5, h6⟩ := hs
      exact ⟨⟨m, HBi m A B h1 (by omega) (hw.mono (by omega) (by omega)), h2, h3⟩, Nat.le_trans h4 hw.size, (hw.cell (p := ⟨W.heap.size, 0, none⟩) (by simp; omega) (.inl (by simp; omega))).trans h5, fun b hb2 => (hw.block b (by simp at hb2; omega) (.inl (by simp at hb2; omega))).trans (h6 b hb2)⟩)
    (fun c k A B hs hA hw => by
      obtain ⟨h1, ⟨m, h2, h3⟩, h4⟩ := hs
      exact ⟨h1, ⟨m, h2, HBx m A B h3 (by omega) (hw.mono (by omega) (by omega))⟩, Nat.le_trans h4 hw.size⟩)
    ⟨⟨0, HBi 0 _ _ h0 (Nat.le_refl _) (SeqN.Win.of_below HB), CE, Nat.zero_le _⟩, Nat.le_refl _, k0, qk⟩
    (fun x a' V => ∃ g, a' = { tmps := (T.setIfInBounds 10 (.agg #[.int .i64 x.f0, .int .i64 x.f1, .int .i64 x.f2, .int .i64 x.f3])).setIfInBounds 4 (.pointer (some ⟨g, 0, none⟩)), defers := [] } ∧ W0.heap.size ≤ g ∧ g < V.heap.size ∧ ∀ j u, ([.int .i64 x.f0, .int .i64 x.f1, .int .i64 x.f2, .int .i64 x.f3] : List Value)[j]? = some u → V.cell? ⟨g, j, none⟩ = some u)
    (fun x a' _ A B row hs hg hr => by
      obtain ⟨g, h1, h2, h3, h4⟩ := hs
      have hr' := fun r e => (hr r e).2
      exact ⟨g, h1, h2, Nat.lt_of_lt_of_le h3 hg.size, fun j u hj => cell_kept (h4 j u hj) hg hr'⟩) ?assign ?body ?done ?stop
  case assign =>
    intro l' k x V K hx hz ⟨⟨m, i1, i1', i1''⟩, i2, i3, i4⟩ hK
    subst hT
    unfold encP
    simp
    gi_wp2
    have hAl := fun o => (Below.refl V.heap.size V).alloc (Nat.le_refl _) o
    refine hK _ _ (SeqN.KeptN.alloc _ (by omega) (fun b hb => by simp at hb; omega))
      ⟨⟨m, HBi m V _ i1 (by omega) (SeqN.Win.of_below (hAl _)), i1', i1''⟩, by simp; omega, ((hAl _).cell (p := ⟨W.heap.size, 0, none⟩) (by simp; omega)).trans i3, fun b hb => ((hAl _).block b (by simp at hb; omega)).trans (i4 b hb)⟩
      ⟨V.heap.size, rfl, i2, by simp, new4 V x _⟩
  case body =>
    rintro l' k x a' V hl ⟨r, hr⟩ hx hz0 ⟨⟨m, i1, i1', i1''⟩, i2, i3, i4⟩ ⟨g, rfl, hg1, hg2, hgc⟩
    obtain ⟨⟨b0, b0'⟩, ⟨b1, b1'⟩, ⟨b2, b2'⟩, b3, b3'⟩ := cuts_mem hd hx
    have g0 := hgc 0 _ rfl
    have g1 := hgc 1 _ rfl
    have g2 := hgc 2 _ rfl
    have g3 := hgc 3 _ rfl
    have dV : V.cell? ⟨B2, 0, none⟩ = some (.int .i64 v) := (World.cell?_of_block (w := W) (a := ⟨B2, 0, none⟩) (i4 B2 (by simp))).trans d4
    have hw0 := hd.w0
    have hw1 := hd.w1
    have hlt0 : W.heap.size < V.heap.size := by omega
    have hlt2 : B2 < V.heap.size := by omega
    have HN : ∀ (A : World), cellOf v x = none → W0.heap.size ≤ A.heap.size → (∃ m, J m A ∧ (cells X0 Y0 X1 Y1 v).drop m = ((cuts X0 Y0 X1 Y1 v).drop k).filterMap (cellOf v) ∧ m ≤ (cells X0 Y0 X1 Y1 v).length) → (∃ m, J m A ∧ (cells X0 Y0 X1 Y1 v).drop m = ((cuts X0 Y0 X1 Y1 v).drop (k + 1)).filterMap (cellOf v) ∧ m ≤ (cells X0 Y0 X1 Y1 v).length) := fun A hf _ ⟨m, h1, h2, h3⟩ => ⟨m, h1, drop_none hx hf h2, h3⟩
    have HS : ∀ (y : Cl), cellOf v x = some y → (cells X0 Y0 X1 Y1 v)[m]? = some y ∧ (cells X0 Y0 X1 Y1 v).drop (m + 1) = ((cuts X0 Y0 X1 Y1 v).drop (k + 1)).filterMap (cellOf v) := fun y hf => drop_some hx hf i1'
    have HN := Lib.hid HN
    have HS := Lib.hid HS
    have HI := Lib.hid i1'
    clear hgc hx i1'
    obtain ⟨p0, p1, p2, p3⟩ := x
    have CD : cellOf v ⟨p0, p1, p2, p3⟩ = if p3 - p1 = 0 ∨ mn p0 p2 / 65536 ≥ v then none else if mn p0 p2 / 65536 < 0 then some ⟨0, ⟨p3 - p1, 0⟩⟩ else some ⟨mn p0 p2 / 65536, ⟨p3 - p1, (p3 - p1) * (p0 + p2 - 2 * (mn p0 p2 / 65536) * 65536)⟩⟩ := rfl
    dsimp only at b0 b0' b1 b1' b2 b2' b3 b3' g0 g1 g2 g3 ⊢
    have ed : wrap64 (p3 - p1) = p3 - p1 := w64 (by omega) (by omega)
    have em : (if p2 < p0 then p2 else p0) = mn p0 p2 := rfl
    have em1 : -17179869184 ≤ mn p0 p2 ∧ mn p0 p2 ≤ 17179869184 := by unfold mn; split <;> omega
    have eD : -65536 ≤ p3 - p1 ∧ p3 - p1 ≤ 65536 := by omega
    have eq1 : -262144 ≤ mn p0 p2 / 65536 ∧ mn p0 p2 / 65536 ≤ 262144 := by omega
    generalize mn p0 p2 = M at *
    obtain ⟨D, hD⟩ : ∃ D, p3 - p1 = D := ⟨_, rfl⟩
    obtain ⟨q, hq⟩ : ∃ q, M / 65536 = q := ⟨_, rfl⟩
    rw [hD] at eD CD ed
    rw [hq] at eq1 CD
    have CDh := Lib.hid CD
    have hAlV : ∀ o, Below V.heap.size V (V.alloc o) := fun o => (Below.refl _ V).alloc (Nat.le_refl _) o
    have hAl : ∀ o, SeqN.Win 11 W.heap.size V (V.alloc o) := fun o => SeqN.Win.of_below (hAlV o)
    clear CD em1
    subst hl
    subst hT
    simp
    by_cases hz : D = 0
    · gi_wp2
      exact ⟨SeqN.KeptN.alloc _ (by omega) (fun b hb => by simp at hb; omega), HN.out _ (CDh.out.trans (if_pos (.inl hz))) (by simp; omega) ⟨m, HBi m V _ i1 (by omega) (hAl _), HI.out, i1''⟩, by simp; omega, ((hAlV _).cell (p := ⟨W.heap.size, 0, none⟩) hlt0).trans i3, ((hAlV _).block B1 (by omega)).trans (i4 B1 (by simp)), ((hAlV _).block B2 hlt2).trans (i4 B2 (by simp))⟩
    · have hz2 : (D == 0) = false := by simpa using hz
      by_cases hge : v ≤ q
      · gi_wp2
        exact ⟨SeqN.KeptN.alloc _ (by omega) (fun b hb => by simp at hb; omega), HN.out _ (CDh.out.trans (if_pos (.inr hge))) (by simp; omega) ⟨m, HBi m V _ i1 (by omega) (hAl _), HI.out, i1''⟩, by simp; omega, ((hAlV _).cell (p := ⟨W.heap.size, 0, none⟩) hlt0).trans i3, ((hAlV _).block B1 (by omega)).trans (i4 B1 (by simp)), ((hAlV _).block B2 hlt2).trans (i4 B2 (by simp))⟩
      · by_cases hneg : q < 0
        · gi_wp2
          obtain ⟨V2, hV2⟩ : ∃ V2, V.alloc (.cells #[.int .i64 D, .int .i64 0] 60) = V2 := ⟨_, rfl⟩
          have hEV : Below V.heap.size V V2 := by rw [← hV2]; exact hAlV _
          have hs2 : V2.heap.size = V.heap.size + 1 := by rw [← hV2]; simp
          obtain ⟨y, hyd⟩ : ∃ y : Cl, y = ⟨0, ⟨D, 0⟩⟩ := ⟨_, rfl⟩
          obtain ⟨hy1, hy2'⟩ := HS.out y (CDh.out.trans (by rw [if_neg (by omega), if_pos hneg, hyd]))
          have hyf : y.f0 = 0 ∧ y.f1.f0 = D ∧ y.f1.f1 = 0 := by rw [hyd]; exact ⟨rfl, rfl, rfl⟩
          clear hyd
          obtain ⟨yf0, yf1, yf2⟩ := hyf
          rw [hV2, ← yf0, ← yf1]
          rw [show (Value.agg #[.int .i64 y.f1.f0, .int .i64 y.f0]) = .agg #[.int .i64 y.f1.f0, .int .i64 y.f1.f1] by rw [yf0, yf2]]
          have hml := (List.getElem?_eq_some_iff.1 hy1).1
          have hsW := hEV.size
          clear yf0 yf1 yf2 hV2
          obtain ⟨fn, tmps, assign, body, hy2, hR⟩ := hY m y V2 hy1 (by omega) (HBi m V V2 i1 (by omega) (SeqN.Win.of_below hEV))
          have hR := Seq.roundIn_any (ro' := some (W0.heap.size + 1)) (n' := 0 - 1) hR
          unfold encC at hy2
          rw [hy2]
          have HY2 := Lib.hid hy2'
          clear hy2' hY
          gi_wp2
          refine hR.mono ?_
          rintro e3 W3 (⟨rfl, hJ3, hk3⟩ | ⟨rfl, hJx3, hk3⟩)
          all_goals
            have hs3 := hk3.1.size
            have hb3 : ∀ b, W.heap.size ≤ b → b < W.heap.size + 11 → b < V.heap.size → W3.heap[b]? = V.heap[b]? := fun b h1 h2 h3 => (hk3.2.1 b h1 h2 (by omega)).trans (hEV.block b h3)
            have hE3 : SeqN.KeptN 8 n₀ [W.heap.size + 1, W.heap.size + 2] W0.heap.size V W3 := ⟨(hEV.mono (by omega)).trans hk3.1, fun b h1 h2 h3 => hb3 b (by omega) (by omega) h3, fun b hb => hb3 b (by simp at hb; omega) (by simp at hb; omega) (by simp at hb; omega)⟩
            gi_wp2
          · exact ⟨hE3, ⟨m + 1, hJ3, HY2.out, hml⟩, by omega, (World.cell?_of_block (w := V) (a := ⟨W.heap.size, 0, none⟩) (hb3 _ (Nat.le_refl _) (by simp) hlt0)).trans i3, (hk3.2.2 B1 (by simp)).trans ((hEV.block B1 (by omega)).trans (i4 B1 (by simp))), (hk3.2.2 B2 (by simp)).trans ((hEV.block B2 (by omega)).trans (i4 B2 (by simp)))⟩
          · exact ⟨hE3, rfl, ⟨m + 1, hml, hJx3⟩, by omega⟩
        · have e1 : wrap64 (p0 + p2) = p0 + p2 := w64 (by omega) (by omega)
          have e2 : wrap64 (2 * q) = 2 * q := w64 (by omega) (by omega)
          have e3 : wrap64 (2 * q * 65536) = 2 * q * 65536 := w64 (by omega) (by omega)
          have e4 : wrap64 (p0 + p2 - 2 * q * 65536) = p0 + p2 - 2 * q * 65536 := w64 (by omega) (by omega)
          have e5 := mul_in (b := p0 + p2 - 2 * q * 65536) eD (by omega)
          have e6 : wrap64 (D * (p0 + p2 - 2 * q * 65536)) = D * (p0 + p2 - 2 * q * 65536) := w64 (by omega) (by omega)
          have CE2 := CDh.out.trans (by rw [if_neg (by omega), if_neg hneg] : _ = some (⟨q, ⟨D, D * (p0 + p2 - 2 * q * 65536)⟩⟩ : Cl))
          clear CDh
          obtain ⟨ar, har⟩ : ∃ ar, D * (p0 + p2 - 2 * q * 65536) = ar := ⟨_, rfl⟩
          rw [har] at e5 e6 CE2
          have CE2 := Lib.hid CE2
          gi_wp2
          obtain ⟨V2, hV2⟩ : ∃ V2, V.alloc (.cells #[.int .i64 D, .int .i64 ar] 60) = V2 := ⟨_, rfl⟩
          have hEV : Below V.heap.size V V2 := by rw [← hV2]; exact hAlV _
          have hs2 : V2.heap.size = V.heap.size + 1 := by rw [← hV2]; simp
          obtain ⟨y, hyd⟩ : ∃ y : Cl, y = ⟨q, ⟨D, ar⟩⟩ := ⟨_, rfl⟩
          obtain ⟨hy1, hy2'⟩ := HS.out y (CE2.out.trans (by rw [hyd]))
          have hyf : y.f0 = q ∧ y.f1.f0 = D ∧ y.f1.f1 = ar := by rw [hyd]; exact ⟨rfl, rfl, rfl⟩
          clear hyd
          obtain ⟨yf0, yf1, yf2⟩ := hyf
          rw [hV2, ← yf0, ← yf1, ← yf2]
          have hml := (List.getElem?_eq_some_iff.1 hy1).1
          have hsW := hEV.size
          clear har yf0 yf1 yf2 hV2
          obtain ⟨fn, tmps, assign, body, hy2, hR⟩ := hY m y V2 hy1 (by omega) (HBi m V V2 i1 (by omega) (SeqN.Win.of_below hEV))
          have hR := Seq.roundIn_any (ro' := some (W0.heap.size + 1)) (n' := 0 - 1) hR
          unfold encC at hy2
          rw [hy2]
          have HY2 := Lib.hid hy2'
          clear hy2' hY
          gi_wp2
          refine hR.mono ?_
          rintro e3 W3 (⟨rfl, hJ3, hk3⟩ | ⟨rfl, hJx3, hk3⟩)
          all_goals
            have hs3 := hk3.1.size
            have hb3 : ∀ b, W.heap.size ≤ b → b < W.heap.size + 11 → b < V.heap.size → W3.heap[b]? = V.heap[b]? := fun b h1 h2 h3 => (hk3.2.1 b h1 h2 (by omega)).trans (hEV.block b h3)
            have hE3 : SeqN.KeptN 8 n₀ [W.heap.size + 1, W.heap.size + 2] W0.heap.size V W3 := ⟨(hEV.mono (by omega)).trans hk3.1, fun b h1 h2 h3 => hb3 b (by omega) (by omega) h3, fun b hb => hb3 b (by simp at hb; omega) (by simp at hb; omega) (by simp at hb; omega)⟩
            gi_wp2
          · exact ⟨hE3, ⟨m + 1, hJ3, HY2.out, hml⟩, by omega, (World.cell?_of_block (w := V) (a := ⟨W.heap.size, 0, none⟩) (hb3 _ (Nat.le_refl _) (by simp) hlt0)).trans i3, (hk3.2.2 B1 (by simp)).trans ((hEV.block B1 (by omega)).trans (i4 B1 (by simp))), (hk3.2.2 B2 (by simp)).trans ((hEV.block B2 (by omega)).trans (i4 B2 (by simp)))⟩
          · exact ⟨hE3, rfl, ⟨m + 1, hml, hJx3⟩, by omega⟩
  case done =>
    rintro V hz ⟨⟨m, i1, i1', i1''⟩, i2, i3, i4⟩ hK
    have hm : m = (cells X0 Y0 X1 Y1 v).length := by
      have := congrArg List.length i1'
      rw [List.length_drop, List.drop_length, List.filterMap_nil, List.length_nil] at this
      omega
    have hP3 : SeqN.Win 11 W.heap.size V (V.putObj W0.heap.size (.deferred none)) := SeqN.Win.put (by omega) (by omega) _
    subst hT
    gi_wp2
    refine ⟨by simp, .inl ⟨_, _, rfl, run_takeDeferred hK, ?_⟩⟩
    exact ⟨.tuple #[], by simp [results, Try.f69, go_sem], ⟨_, rfl⟩, .inl (by rw [← hm]; exact HBi _ _ _ i1 (by omega) hP3)⟩
  case stop =>
    rintro c k V hk hz ⟨rfl, ⟨m, hm, hx⟩, hs⟩ hK
    have hP3 : SeqN.Win 11 W.heap.size V (V.putObj W0.heap.size (.deferred none)) := SeqN.Win.put (by omega) (by omega) _
    subst hT
    gi_wp2
    refine ⟨by simp, .inl ⟨_, _, rfl, run_takeDeferred hK, ?_⟩⟩
    exact ⟨.tuple #[], by simp [results, Try.f69, go_sem], ⟨_, rfl⟩, .inr ⟨m, hm, HBx m _ _ hx (by omega) hP3⟩⟩
end Go.Proofs.Ytejcjonlnijbkaa.Cell
