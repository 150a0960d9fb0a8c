/- Package strip's All, walked: the iterator hands the strips of an edge, in order. For all edges and heights that may be asked about. -/
import Derived.Test.YtjdpmaachehpnaaStripN
import Derived.Test.YtjdpmaachehpnaaSm
import Derived.Test.YtjdpmaachehpnaaWm1
import Derived.LoopTactic
import Derived.Lib.Hide
namespace Go.Proofs.Ytjdpmaachehpnaa.Strip
open Go Go.RowKit Go.Shelf Range Go.Proofs.Ytjdpmaachehpnaa.PE Go.Proofs.YtjdpmaachehpnaaW.PrintWords Go.Proofs.YtjdpmaachehpnaaW.PrintLast Go.Proofs.YtjdpmaachehpnaaW.PrintMore Go.Proofs.Ytjdpmaachehpnaa.Num
set_option maxRecDepth 100000
set_option linter.unusedVariables false
set_option linter.unusedSimpArgs false
attribute [local go_sem] Oper.semAt_some

def encR (x : Rw) : Array Value := #[.int .i64 x.f0, .agg #[.int .i64 x.f1.f0, .int .i64 x.f1.f1, .int .i64 x.f1.f2, .int .i64 x.f1.f3]]
theorem all_calls (px py qx qy h : Int) (w : World) : Calls Try.prog 30 #[.agg #[.int .i64 px, .int .i64 py, .int .i64 qx, .int .i64 qy], .int .i64 h] w fun e w' => e = .returned (.func (.func 37) #[] #[.pointer (some ⟨w.heap.size, 0, none⟩), .pointer (some ⟨w.heap.size + 1, 0, none⟩)]) ∧ w' = (w.alloc (.cells #[.int .i64 px, .int .i64 py, .int .i64 qx, .int .i64 qy] 25)).alloc (.cells #[.int .i64 h] 3) := by
  go_enter Try.func30, Try.ntmps30
  go_wp2
  go_ret
  exact ⟨by simp, rfl⟩

theorem strips_len (px py qx qy h : Int) : (strips px py qx qy h).length = sN py qy h := by simp [strips]
theorem strips_at (px py qx qy h : Int) {k : Nat} (hk : k < sN py qy h) : (strips px py qx qy h)[k]? = some (rowS px py qx qy (sRow py qy h k)) := by simp [strips, hk]

theorem sN_pos {px py qx qy h : Int} (hd : Dom px py qx qy h) (hok : sT py qy < sE py qy h) : 0 < sN py qy h := by
  have t0 : 0 ≤ sT py qy := by unfold sT mx mn; (repeat' split) <;> omega
  unfold sN sA sB; rw [if_pos hok]; omega
theorem last_row {px py qx qy h : Int} (hd : Dom px py qx qy h) (hok : sT py qy < sE py qy h) {k : Nat} (hk : k < sN py qy h) (hgt : qy < py) : (sRow py qy h k == sA py qy) = decide (k + 1 = sN py qy h) := by
  have h0 := sN_pos hd hok
  have t0 : sA py qy ≤ sB py qy h := by unfold sN at h0; rw [if_pos hok] at h0; omega
  rw [Bool.eq_iff_iff]; simp
  unfold sN sRow at *; rw [if_pos hok] at *; rw [if_pos hgt]; omega
theorem last_row' {px py qx qy h : Int} (hd : Dom px py qx qy h) (hok : sT py qy < sE py qy h) {k : Nat} (hk : k < sN py qy h) (hgt : ¬ qy < py) : (sRow py qy h k == sB py qy h) = decide (k + 1 = sN py qy h) := by
  have h0 := sN_pos hd hok
  have t0 : sA py qy ≤ sB py qy h := by unfold sN at h0; rw [if_pos hok] at h0; omega
  rw [Bool.eq_iff_iff]; simp
  unfold sN sRow at *; rw [if_pos hok] at *; rw [if_neg hgt]; omega
theorem next_row {px py qx qy h : Int} (hd : Dom px py qx qy h) {k : Nat} (hk : k < sN py qy h) (hgt : qy < py) : wrap64 (sRow py qy h k + -1) = sRow py qy h (k + 1) := by
  obtain ⟨r0, r1, _⟩ := row_bounds hd hk
  have := hd.h1
  rw [w64 (by omega) (by omega)]
  unfold sRow; rw [if_pos hgt, if_pos hgt]; omega
theorem next_row' {px py qx qy h : Int} (hd : Dom px py qx qy h) {k : Nat} (hk : k < sN py qy h) (hgt : ¬ qy < py) : wrap64 (sRow py qy h k + 1) = sRow py qy h (k + 1) := by
  obtain ⟨r0, r1, _⟩ := row_bounds hd hk
  have := hd.h1
  rw [w64 (by omega) (by omega)]
  unfold sRow; rw [if_neg hgt, if_neg hgt]; omega
set_option maxHeartbeats 8000000 in
theorem all_gives (n₀ B1 B2 : Nat) (px py qx qy h : Int) (hd : Dom px py qx qy h) (w : World) (hb1 : B1 < w.heap.size) (hb2 : B2 < w.heap.size)
    (c0 : w.cell? ⟨B1, 0, none⟩ = some (.int .i64 px)) (c1 : w.cell? ⟨B1, 1, none⟩ = some (.int .i64 py)) (c2 : w.cell? ⟨B1, 2, none⟩ = some (.int .i64 qx)) (c3 : w.cell? ⟨B1, 3, none⟩ = some (.int .i64 qy)) (c4 : w.cell? ⟨B2, 0, none⟩ = some (.int .i64 h)) :
    Seq.Gives Try.prog false 37 #[.pointer (some ⟨B1, 0, none⟩), .pointer (some ⟨B2, 0, none⟩)] encR n₀ [B1, B2] (strips px py qx qy h) w := by
  intro l J Jx W hW hJ _ hY h0
  have d0 := (hW.cell (p := ⟨B1, 0, none⟩) hb1).trans c0
  have d1 := (hW.cell (p := ⟨B1, 1, none⟩) hb1).trans c1
  have d2 := (hW.cell (p := ⟨B1, 2, none⟩) hb1).trans c2
  have d3 := (hW.cell (p := ⟨B1, 3, none⟩) hb1).trans c3
  have d4 := (hW.cell (p := ⟨B2, 0, none⟩) hb2).trans c4
  have hB1 := Nat.lt_of_lt_of_le hb1 hW.size
  have hB2 := Nat.lt_of_lt_of_le hb2 hW.size
  clear hW hb1 hb2 c0 c1 c2 c3 c4
  have cells : ∀ {V : World}, (∀ b ∈ [B1, B2], V.heap[b]? = W.heap[b]?) → V.cell? ⟨B1, 0, none⟩ = some (.int .i64 px) ∧ V.cell? ⟨B1, 1, none⟩ = some (.int .i64 py) ∧ V.cell? ⟨B1, 2, none⟩ = some (.int .i64 qx) ∧ V.cell? ⟨B1, 3, none⟩ = some (.int .i64 qy) := fun {V} hV =>
    ⟨(World.cell?_of_block (w := W) (a := ⟨B1, 0, none⟩) (hV B1 (by simp))).trans d0, (World.cell?_of_block (w := W) (a := ⟨B1, 1, none⟩) (hV B1 (by simp))).trans d1, (World.cell?_of_block (w := W) (a := ⟨B1, 2, none⟩) (hV B1 (by simp))).trans d2, (World.cell?_of_block (w := W) (a := ⟨B1, 3, none⟩) (hV B1 (by simp))).trans d3⟩
  by_cases hok : sT py qy < sE py qy h
  · have RW := Lib.hid (fun w => strip_Rows.calls px py qx qy h (sA py qy) (sB py qy h) true w (by rw [rows_f hd, if_pos hok]))
    have h0n : 0 < sN py qy h := sN_pos hd hok
    have hem := Classical.em (qy < py)
    rcases hem with hgt | hgt
    all_goals have HG := Lib.hid hgt
    all_goals
      refine callsIn_of_wp Try.func37 rfl trivial ?_ rfl
      simp only [Try.ntmps37, List.size_toArray, List.length_cons, List.length_nil, Nat.reduceAdd, Nat.reduceSub, Array.replicate_succ, Array.replicate_zero, List.push_toArray, List.append_toArray, List.nil_append, List.cons_append]
      gi_wp2_with (first
        | (gi_at_call 17; refine (Seq.of_calls (RW.out _)).mono ?_; rintro e w1 ⟨rfl, hb1⟩; have e1 := (hb1.cell (p := ⟨B1, 1, none⟩) hB1).trans d1; have e3 := (hb1.cell (p := ⟨B1, 3, none⟩) hB1).trans d3))
    all_goals
      have hk1 : ∀ b ∈ [B1, B2], w1.heap[b]? = W.heap[b]? := fun b hb => hb1.block b (by simp at hb; rcases hb with rfl | rfl <;> assumption)
    · gi_loopw [4] (fun r wr => ∃ k : Nat, r = .int .i64 (sRow py qy h k) ∧ k < sN py qy h ∧ J k wr ∧ W.heap.size ≤ wr.heap.size ∧ ∀ b ∈ [B1, B2], wr.heap[b]? = W.heap[b]?) (fun r _ => (sRow py qy h (sN py qy h) - intOf r).natAbs)
      case atStart => exact ⟨0, by simp [sRow, HG.out], h0n, hJ 0 _ _ h0 (Nat.le_refl _) (Seq.tick_below (Nat.le_refl _) hb1), hb1.size, hk1⟩
      case round =>
        obtain ⟨k, rfl, hk, hJk, hsz, hbk⟩ := hrel
        obtain ⟨r0, r1, r2, r3⟩ := row_bounds hd hk
        have ON := Lib.hid (fun w => strip_one.calls px py qx qy _ _ _ _ _ w (one_f hd r0 r1 r2 r3))
        have hx := Lib.hid (strips_at px py qx qy h hk)
        have HY := Lib.hid (hY k _ · hx.out)
        obtain ⟨g0, g1, g2, g3⟩ := cells hbk
        have hlast : (sRow py qy h k == sA py qy) = decide (k + 1 = sN py qy h) := last_row hd hok hk HG.out
        have hnext : wrap64 (sRow py qy h k + -1) = sRow py qy h (k + 1) := next_row hd hk HG.out
        have HD := Lib.hid hd
        have hmes : Hid ((sRow py qy h (sN py qy h) - sRow py qy h (k + 1)).natAbs < (sRow py qy h (sN py qy h) - sRow py qy h k).natAbs) := Lib.hid (by unfold sRow; rw [if_pos HG.out, if_pos HG.out, if_pos HG.out]; omega)
        clear hd hx hY
        generalize hX : rowS px py qx qy (sRow py qy h k) = x at *
        have hxr : x.f0 = sRow py qy h k := by rw [← hX]; rfl
        have HNX := Lib.hid hnext
        clear hX hnext
        have hsk := Lib.hid (rfl : sRow py qy h k = sRow py qy h k)
        generalize hrow : sRow py qy h k = row at *
        have hrow' := Lib.hid hrow
        clear hrow hsk
        gi_wp2_with (gi_at_call 38; refine (Seq.of_calls (ON.out _)).mono ?_; rintro e w2 ⟨rfl, hb2⟩)
        have hs2 := Nat.le_trans hsz hb2.size
        obtain ⟨fn, tmps, assign, body, hy2, hR⟩ := HY.out w2 hs2 (hJ k _ _ hJk hsz (Seq.tick_below hsz hb2))
        have hR := Seq.roundIn_any (ro' := none) (n' := 0 - 1) hR
        unfold encR at hy2
        rw [hxr] at hy2
        rw [hy2]
        gi_wp2
        refine hR.mono ?_
        rintro e W3 (⟨rfl, hJ3, hk3⟩ | ⟨rfl, hJx3, _⟩)
        · by_cases hkn : k + 1 = sN py qy h
          · rw [decide_eq_true hkn] at hlast
            gi_wp2
            refine bodyPost_ret (results_none rfl _ _ _) rfl ?_
            exact ⟨⟨_, rfl⟩, .inl (by rw [strips_len, ← hkn]; exact hJ3)⟩
          · rw [decide_eq_false hkn] at hlast
            gi_wp2
            go_roundw
            case rel => exact ⟨k + 1, by rw [← HNX.out], by omega, hJ3, Nat.le_trans hs2 hk3.1.size, fun b hb => (hk3.2.2 b hb).trans ((hb2.block b (by simp at hb; rcases hb with rfl | rfl <;> omega)).trans (hbk b hb))⟩
            case measure => rw [HNX.out]; have := hmes.out; simp only [intOf]; exact this
        · gi_wp2
          refine bodyPost_ret (results_none rfl _ _ _) rfl ?_
          exact ⟨⟨_, rfl⟩, .inr ⟨k + 1, by rw [strips_len]; omega, hJx3⟩⟩
    · gi_loopw [4] (fun r wr => ∃ k : Nat, r = .int .i64 (sRow py qy h k) ∧ k < sN py qy h ∧ J k wr ∧ W.heap.size ≤ wr.heap.size ∧ ∀ b ∈ [B1, B2], wr.heap[b]? = W.heap[b]?) (fun r _ => (sRow py qy h (sN py qy h) - intOf r).natAbs)
      case atStart => exact ⟨0, by have HN : ¬ qy < py := (by have := HG.out; omega); simp [sRow, HN], h0n, hJ 0 _ _ h0 (Nat.le_refl _) (Seq.tick_below (Nat.le_refl _) hb1), hb1.size, hk1⟩
      case round =>
        obtain ⟨k, rfl, hk, hJk, hsz, hbk⟩ := hrel
        have HN : ¬ qy < py := (by have := HG.out; omega)
        obtain ⟨r0, r1, r2, r3⟩ := row_bounds hd hk
        have ON := Lib.hid (fun w => strip_one.calls px py qx qy _ _ _ _ _ w (one_f hd r0 r1 r2 r3))
        have hx := Lib.hid (strips_at px py qx qy h hk)
        have HY := Lib.hid (hY k _ · hx.out)
        obtain ⟨g0, g1, g2, g3⟩ := cells hbk
        have hlast : (sRow py qy h k == sB py qy h) = decide (k + 1 = sN py qy h) := last_row' hd hok hk HN
        have hnext : wrap64 (sRow py qy h k + 1) = sRow py qy h (k + 1) := next_row' hd hk HN
        have HD := Lib.hid hd
        have hmes : Hid ((sRow py qy h (sN py qy h) - sRow py qy h (k + 1)).natAbs < (sRow py qy h (sN py qy h) - sRow py qy h k).natAbs) := Lib.hid (by unfold sRow; rw [if_neg HN, if_neg HN, if_neg HN]; omega)
        clear hd hx hY
        generalize hX : rowS px py qx qy (sRow py qy h k) = x at *
        have hxr : x.f0 = sRow py qy h k := by rw [← hX]; rfl
        have HNX := Lib.hid hnext
        clear hX hnext
        have hsk := Lib.hid (rfl : sRow py qy h k = sRow py qy h k)
        generalize hrow : sRow py qy h k = row at *
        have hrow' := Lib.hid hrow
        clear hrow hsk
        gi_wp2_with (gi_at_call 38; refine (Seq.of_calls (ON.out _)).mono ?_; rintro e w2 ⟨rfl, hb2⟩)
        have hs2 := Nat.le_trans hsz hb2.size
        obtain ⟨fn, tmps, assign, body, hy2, hR⟩ := HY.out w2 hs2 (hJ k _ _ hJk hsz (Seq.tick_below hsz hb2))
        have hR := Seq.roundIn_any (ro' := none) (n' := 0 - 1) hR
        unfold encR at hy2
        rw [hxr] at hy2
        rw [hy2]
        gi_wp2
        refine hR.mono ?_
        rintro e W3 (⟨rfl, hJ3, hk3⟩ | ⟨rfl, hJx3, _⟩)
        · by_cases hkn : k + 1 = sN py qy h
          · rw [decide_eq_true hkn] at hlast
            gi_wp2
            refine bodyPost_ret (results_none rfl _ _ _) rfl ?_
            exact ⟨⟨_, rfl⟩, .inl (by rw [strips_len, ← hkn]; exact hJ3)⟩
          · rw [decide_eq_false hkn] at hlast
            gi_wp2
            go_roundw
            case rel => exact ⟨k + 1, by rw [← HNX.out], by omega, hJ3, Nat.le_trans hs2 hk3.1.size, fun b hb => (hk3.2.2 b hb).trans ((hb2.block b (by simp at hb; rcases hb with rfl | rfl <;> omega)).trans (hbk b hb))⟩
            case measure => rw [HNX.out]; have := hmes.out; simp only [intOf]; exact this
        · gi_wp2
          refine bodyPost_ret (results_none rfl _ _ _) rfl ?_
          exact ⟨⟨_, rfl⟩, .inr ⟨k + 1, by rw [strips_len]; omega, hJx3⟩⟩
  · have RW := Lib.hid (fun w => strip_Rows.calls px py qx qy h 0 0 false w (by rw [rows_f hd, if_neg hok]))
    have h0n : sN py qy h = 0 := by unfold sN; rw [if_neg hok]
    have hlen := strips_len px py qx qy h
    rw [h0n] at hlen
    have hem := Classical.em (qy < py)
    rcases hem with hgt | hgt
    all_goals have HG := Lib.hid hgt
    all_goals
      refine callsIn_of_wp Try.func37 rfl trivial ?_ rfl
      simp only [Try.ntmps37, List.size_toArray, List.length_cons, List.length_nil, Nat.reduceAdd, Nat.reduceSub, Array.replicate_succ, Array.replicate_zero, List.push_toArray, List.append_toArray, List.nil_append, List.cons_append]
      gi_wp2_with (first
        | (gi_at_call 17; refine (Seq.of_calls (RW.out _)).mono ?_; rintro e w1 ⟨rfl, hb1⟩; have e1 := (hb1.cell (p := ⟨B1, 1, none⟩) hB1).trans d1; have e3 := (hb1.cell (p := ⟨B1, 3, none⟩) hB1).trans d3))
      gi_loopw [] (fun wr => wr = w1) (fun _ => 0)
      case atStart => rfl
      case round =>
        subst hrel
        gi_wp2
        go_end0
        exact ⟨⟨_, rfl⟩, .inl (by rw [hlen]; exact hJ 0 _ _ h0 (Nat.le_refl _) (Seq.tick_below (Nat.le_refl _) hb1))⟩
end Go.Proofs.Ytjdpmaachehpnaa.Strip
