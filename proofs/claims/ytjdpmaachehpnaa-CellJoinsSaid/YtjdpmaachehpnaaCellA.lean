/- Package cell's lines, walked: the iterator hands the lines that a strip comes to, in order. For all strips and widths that may be asked about. -/
import Derived.Test.YtjdpmaachehpnaaCellN
import Derived.Test.YtjdpmaachehpnaaSm
import Derived.Test.YtjdpmaachehpnaaWm1
import Derived.LoopTactic
import Derived.Lib.Hide
import Derived.Sort.QuietTacIn
namespace Go.Proofs.Ytjdpmaachehpnaa.Cell
open Go Go.RowKit Go.Shelf Range Go.Proofs.Ytjdpmaachehpnaa.PE Go.Proofs.YtjdpmaachehpnaaW.PrintWords Go.Proofs.YtjdpmaachehpnaaW.PrintLast Go.Proofs.YtjdpmaachehpnaaW.PrintMore Go.Proofs.Ytjdpmaachehpnaa.Num
set_option maxRecDepth 100000
set_option linter.unusedVariables false
set_option linter.unusedSimpArgs false
attribute [local go_sem] Oper.semAt_some max2_int min2_int max_two min_two

def encI (x : Int) : Array Value := #[.int .i64 x]
theorem lines_calls (X0 Y0 X1 Y1 v : Int) (w : World) : Calls Try.prog 52 #[.agg #[.int .i64 X0, .int .i64 Y0, .int .i64 X1, .int .i64 Y1], .int .i64 v] w fun e w' => e = .returned (.func (.func 62) #[] #[.pointer (some ⟨w.heap.size, 0, none⟩), .pointer (some ⟨w.heap.size + 1, 0, none⟩)]) ∧ w' = (w.alloc (.cells #[.int .i64 X0, .int .i64 Y0, .int .i64 X1, .int .i64 Y1] 32)).alloc (.cells #[.int .i64 v] 3) := by
  go_enter Try.func52, Try.ntmps52
  go_wp2
  go_ret
  exact ⟨by simp, rfl⟩
theorem shr16 (x : Int) : x / 2 ^ 16 = x / 65536 := rfl

set_option maxHeartbeats 8000000 in
theorem lines_gives (n₀ B1 B2 : Nat) (X0 Y0 X1 Y1 v : Int) (hd : Dom X0 Y0 X1 Y1 v) (w : World) (hb1 : B1 < w.heap.size) (hb2 : B2 < w.heap.size)
    (c0 : w.cell? ⟨B1, 0, none⟩ = some (.int .i64 X0)) (c2 : w.cell? ⟨B1, 2, none⟩ = some (.int .i64 X1)) (c4 : w.cell? ⟨B2, 0, none⟩ = some (.int .i64 v)) :
    Seq.Gives Try.prog false 62 #[.pointer (some ⟨B1, 0, none⟩), .pointer (some ⟨B2, 0, none⟩)] encI n₀ [] (lns X0 X1 v) w := by
  intro l J Jx W hW hJ _ hY h0
  have d0 := (hW.cell (p := ⟨B1, 0, none⟩) hb1).trans c0
  have d2 := (hW.cell (p := ⟨B1, 2, none⟩) hb1).trans c2
  have d4 := (hW.cell (p := ⟨B2, 0, none⟩) hb2).trans c4
  clear hW hb1 hb2 c0 c2 c4
  have hx0 := hd.x0
  have hx1 := hd.x1
  have hw1 := hd.w1
  have hw0 := hd.w0
  refine callsIn_of_wp Try.func62 rfl trivial ?_ rfl
  simp only [Try.ntmps62, List.size_toArray, List.length_cons, List.length_nil, Nat.reduceAdd, Nat.reduceSub, Array.replicate_succ, Array.replicate_zero, List.push_toArray, List.append_toArray, List.nil_append, List.cons_append]
  gi_wp2
  gi_quiet_th (skip)
  rw [show (if X1 < X0 then X1 else X0) = mn X0 X1 from rfl, show (if X0 < X1 then X1 else X0) = mx X0 X1 from rfl]
  have hlo : -17179869184 ≤ mn X0 X1 ∧ mn X0 X1 ≤ 17179869184 := by unfold mn; split <;> omega
  have hhi : -17179869184 ≤ mx X0 X1 ∧ mx X0 X1 ≤ 17179869184 := by unfold mx; split <;> omega
  have e1 : wrap64 (mn X0 X1 + 65536) = mn X0 X1 + 65536 := w64 (by omega) (by omega)
  have e2 : wrap64 (mx X0 X1 - 1) = mx X0 X1 - 1 := w64 (by omega) (by omega)
  have hdw : (W.drewN nq).cell? ⟨B2, 0, none⟩ = some (.int .i64 v) := d4
  have hg0 : (W.drewN nq).cell? ⟨B1, 0, none⟩ = some (.int .i64 X0) := d0
  have hg2 : (W.drewN nq).cell? ⟨B1, 2, none⟩ = some (.int .i64 X1) := d2
  have hsz : W.heap.size ≤ (W.drewN nq).heap.size := Nat.le_refl _
  have hJ0 : J 0 (W.drewN nq) := hJ 0 _ _ h0 (Nat.le_refl _) (Seq.tick_below (Nat.le_refl _) ⟨rfl, rfl, rfl, Nat.le_refl _, fun _ _ => rfl⟩)
  clear d0 d2 d4
  generalize W.drewN nq = W1 at *
  obtain ⟨F, hF⟩ : ∃ F, lF X0 X1 = F := ⟨_, rfl⟩
  obtain ⟨L, hL⟩ : ∃ L, lL X0 X1 v = L := ⟨_, rfl⟩
  have e3 : (if (mn X0 X1 + 65536) / 65536 < 0 then 0 else (mn X0 X1 + 65536) / 65536) = F := hF
  have e4 : (if v < (mx X0 X1 - 1) / 65536 then v else (mx X0 X1 - 1) / 65536) = L := hL
  have e5 : wrap64 (L - F) = L - F := by
    unfold lF mx at hF; unfold lL mn at hL
    exact w64 (by split at hF <;> split at hL <;> omega) (by split at hF <;> split at hL <;> omega)
  have hN : Hid (lN X0 X1 v = (L - F + 1).toNat) := Lib.hid (by unfold lN; rw [hF, hL])
  have hLF : Hid (0 ≤ F ∧ F ≤ 300000 ∧ L ≤ 100000 ∧ -300000 ≤ L) := Lib.hid (by
    unfold lF mx at hF; unfold lL mn at hL
    split at hF <;> split at hL <;> omega)
  have HD := Lib.hid hd
  clear hd
  have hem := Classical.em (X0 > X1)
  rcases hem with hgt | hgt
  all_goals have HG := Lib.hid hgt
  all_goals gi_wp2
  · gi_loopw [8, 10] (fun r m wr => ∃ i : Nat, r = .int .i64 (lK X0 X1 v i) ∧ m = .int .i64 (L - F - i) ∧ i ≤ lN X0 X1 v ∧ J i wr ∧ W.heap.size ≤ wr.heap.size) (fun _ m _ => (intOf m + 1).toNat)
    case atStart => exact ⟨0, by have HN := HG.out; simp only [lK]; rw [if_pos (by omega)]; simp [hF, hL], by simp, Nat.zero_le _, hJ0, hsz⟩
    case round =>
      obtain ⟨i, rfl, rfl, hi, hJi, hs⟩ := hrel
      by_cases hlt : i < lN X0 X1 v
      · have hN2 := hN.out
        have hge : (0 : Int) ≤ L - F - i := by omega
        obtain ⟨q0, q1, _, _⟩ := line_in HD.out hlt
        have hx := Lib.hid (lns_at hlt)
        have HY := Lib.hid (hY i _ · hx.out)
        have esh : wrap64 (lK X0 X1 v i * 65536) = lK X0 X1 v i * 65536 := w64 (by omega) (by omega)
        have enx : Hid (wrap64 (lK X0 X1 v i + -1) = lK X0 X1 v (i + 1)) := Lib.hid (by rw [w64 (by omega) (by omega)]; have := HG.out; simp only [lK]; rw [if_pos (by omega), if_pos (by omega)]; omega)
        have edn : wrap64 (L - F - i - 1) = L - F - i - 1 := w64 (by omega) (by omega)
        clear hx
        generalize lK X0 X1 v i = K at *
        obtain ⟨fn, tmps, assign, body, hy2, hR⟩ := HY.out wr hs hJi
        have hR := Seq.roundIn_any (ro' := none) (n' := 0 - 1) hR
        unfold encI at hy2
        have hs2 := hs
        gi_wp2
        refine hR.mono ?_
        rintro e W3 (⟨rfl, hJ3, hk3⟩ | ⟨rfl, hJx3, _⟩)
        · gi_wp2
          go_roundw
          case rel => exact ⟨i + 1, by (have h_ := enx.out; rw [w64 (by omega) (by omega)] at h_; rw [h_]), by congr 1; omega, hlt, hJ3, Nat.le_trans hs2 hk3.1.size⟩
          case measure => simp only [intOf]; omega
        · gi_wp2
          refine bodyPost_ret (results_none rfl _ _ _) rfl ?_
          exact ⟨⟨_, rfl⟩, .inr ⟨i + 1, by rw [lns_len]; exact hlt, hJx3⟩⟩
      · obtain rfl : i = lN X0 X1 v := by omega
        have hge : ¬ (0 : Int) ≤ L - F - (lN X0 X1 v : Nat) := by have := hN.out; omega
        gi_wp2
        go_end0
        exact ⟨⟨_, rfl⟩, .inl (by rw [lns_len]; exact hJi)⟩
  · gi_loopw [8, 10] (fun r m wr => ∃ i : Nat, r = .int .i64 (lK X0 X1 v i) ∧ m = .int .i64 (L - F - i) ∧ i ≤ lN X0 X1 v ∧ J i wr ∧ W.heap.size ≤ wr.heap.size) (fun _ m _ => (intOf m + 1).toNat)
    case atStart => exact ⟨0, by have HN := HG.out; simp only [lK]; rw [if_neg (by omega)]; simp [hF, hL], by simp, Nat.zero_le _, hJ0, hsz⟩
    case round =>
      obtain ⟨i, rfl, rfl, hi, hJi, hs⟩ := hrel
      by_cases hlt : i < lN X0 X1 v
      · have hN2 := hN.out
        have hge : (0 : Int) ≤ L - F - i := by omega
        obtain ⟨q0, q1, _, _⟩ := line_in HD.out hlt
        have hx := Lib.hid (lns_at hlt)
        have HY := Lib.hid (hY i _ · hx.out)
        have esh : wrap64 (lK X0 X1 v i * 65536) = lK X0 X1 v i * 65536 := w64 (by omega) (by omega)
        have enx : Hid (wrap64 (lK X0 X1 v i + 1) = lK X0 X1 v (i + 1)) := Lib.hid (by rw [w64 (by omega) (by omega)]; have := HG.out; simp only [lK]; rw [if_neg (by omega), if_neg (by omega)]; omega)
        have edn : wrap64 (L - F - i - 1) = L - F - i - 1 := w64 (by omega) (by omega)
        clear hx
        generalize lK X0 X1 v i = K at *
        obtain ⟨fn, tmps, assign, body, hy2, hR⟩ := HY.out wr hs hJi
        have hR := Seq.roundIn_any (ro' := none) (n' := 0 - 1) hR
        unfold encI at hy2
        have hs2 := hs
        gi_wp2
        refine hR.mono ?_
        rintro e W3 (⟨rfl, hJ3, hk3⟩ | ⟨rfl, hJx3, _⟩)
        · gi_wp2
          go_roundw
          case rel => exact ⟨i + 1, by (have h_ := enx.out; rw [w64 (by omega) (by omega)] at h_; rw [h_]), by congr 1; omega, hlt, hJ3, Nat.le_trans hs2 hk3.1.size⟩
          case measure => simp only [intOf]; omega
        · gi_wp2
          refine bodyPost_ret (results_none rfl _ _ _) rfl ?_
          exact ⟨⟨_, rfl⟩, .inr ⟨i + 1, by rw [lns_len]; exact hlt, hJx3⟩⟩
      · obtain rfl : i = lN X0 X1 v := by omega
        have hge : ¬ (0 : Int) ≤ L - F - (lN X0 X1 v : Nat) := by have := hN.out; omega
        gi_wp2
        go_end0
        exact ⟨⟨_, rfl⟩, .inl (by rw [lns_len]; exact hJi)⟩
end Go.Proofs.Ytjdpmaachehpnaa.Cell
