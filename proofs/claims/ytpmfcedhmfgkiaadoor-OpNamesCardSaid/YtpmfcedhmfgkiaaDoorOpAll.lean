/- The law OpAll, walked: the operators are told in order, up to where one stops. In any world that holds the table. -/
import Derived.Test.YtpmfcedhmfgkiaaDoorOpAll0
namespace Go.Proofs.YtpmfcedhmfgkiaaDoor.Ops
open Go Go.RowKit Go.Shelf Range
set_option maxRecDepth 100000
set_option linter.unusedVariables false
set_option linter.unusedSimpArgs false
attribute [local go_sem] Oper.semAt_some

theorem nameB_emp (o : Int) : ((nameB o).toList == []) = !decide (0 ≤ o ∧ o < 12) := by
  have := nameB_ne o
  rw [← this]; cases (nameB o).toList <;> rfl
theorem name_word (k : Nat) (h : k < 12) : nameB (k : Int) = wordB k := by
  unfold nameB wordB
  rw [if_pos (by omega)]; simp

set_option maxHeartbeats 8000000 in
theorem opall_calls (s : Int) (s0 : 0 ≤ s) (s1 : s ≤ 255) (w : World) (hk : Kinds w) : Calls Tryd.prog 9 #[.int .u8 s] w fun e w' => e = .returned (.bool true) ∧ Below w.heap.size w w' := by
  have WK := Lib.hid (fun (w1 : World) (hb : Below w.heap.size w w1) => wakes20_calls w1 (hk.below hb))
  have AL := Lib.hid all_calls
  have NF := neq_func_nil (P := Tryd.prog) Tryd.underlying41 (.func 31) #[] #[]
  refine Seq.calls_of (n := 0) (callsIn_of_wp_marks Tryd.func9 rfl trivial ?_ rfl)
  simp only [Tryd.ntmps9, List.size_toArray, List.length_cons, List.length_nil, Nat.reduceAdd, Nat.reduceSub, Array.replicate_succ, Array.replicate_zero, List.push_toArray, List.append_toArray, List.nil_append, List.cons_append]
  gi_wp2_with (first
    | (gi_at_call 12; ((refine (Seq.of_calls (WK.out _ (by (repeat' (first | (with_reducible exact Below.refl _ _) | (with_reducible refine Below.drew ?_) | (with_reducible refine below_drewN ?_ _) | ((with_reducible refine Below.setCell ?_ ?side_ _); case side_ => (first | (with_reducible exact Nat.le_refl _) | (with_reducible assumption) | omega | (simp; done) | (simp; omega))) | ((with_reducible refine Below.alloc ?_ ?side_ _); case side_ => (first | (with_reducible exact Nat.le_refl _) | (with_reducible assumption) | omega | (simp; done) | (simp; omega)))))))).mono ?_); rintro e w1 ⟨rfl, hb1⟩; obtain ⟨hc1, hf1⟩ := Eq.bcell hb1; (try simp only [World.size_drew] at hc1 hf1); have hq1 := hb1.size; (try simp at hq1); have hz1_0 : w.heap.size < w1.heap.size := (by omega); have hz1_1 : w.heap.size + 1 < w1.heap.size := (by omega); clear hq1))
    | (gi_at_call 25; refine (Seq.of_calls (AL.out _)).mono ?_; rintro e w2 ⟨rfl, rfl⟩))
  have HB : Below w.heap.size w (w1.alloc (.cells #[.int .i64 0] 3)) := by have z_hb1 := hb1.size; (try simp at z_hb1); (repeat' (first | (with_reducible exact Below.refl _ _) | (with_reducible refine Below.drew ?_) | (with_reducible refine below_drewN ?_ _) | ((with_reducible refine Below.setCell ?_ ?side_ _); case side_ => (first | (with_reducible exact Nat.le_refl _) | (with_reducible assumption) | omega | (simp; done) | (simp; omega))) | ((with_reducible refine Below.alloc ?_ ?side_ _); case side_ => (first | (with_reducible exact Nat.le_refl _) | (with_reducible assumption) | omega | (simp; done) | (simp; omega))) | ((with_reducible refine Below.trans ?_ (hb1.mono ?side_)); case side_ => (first | (with_reducible exact Nat.le_refl _) | (with_reducible assumption) | omega | (simp; done) | (simp; omega)))))
  have k1 : (w1.alloc (.cells #[.int .i64 0] 3)).cell? ⟨w.heap.size, 0, none⟩ = some (.int .u8 s) := by go_simp
  have k2 : (w1.alloc (.cells #[.int .i64 0] 3)).cell? ⟨w.heap.size + 1, 0, none⟩ = some (.bool false) := by go_simp
  have k3 : (w1.alloc (.cells #[.int .i64 0] 3)).frozen? ⟨w.heap.size + 1, 0, none⟩ = false := by go_simp
  have k4 : (w1.alloc (.cells #[.int .i64 0] 3)).cell? ⟨w1.heap.size, 0, none⟩ = some (.int .i64 ((0 : Nat) : Int)) := by go_simp
  have k5 : (w1.alloc (.cells #[.int .i64 0] 3)).frozen? ⟨w1.heap.size, 0, none⟩ = false := by go_simp
  refine Seq.range (priv := false) (n₀ := w.heap.size) rfl (enters_of Tryd.func31 (by kernel_rfl) rfl) (all_gives w.heap.size _ (hk.below HB)) (by simp; omega) (Below.refl _ _) (fun _ => rfl)
    (fun k W => (((((k : Int) ≤ s ∧ W.cell? ⟨w.heap.size, 0, none⟩ = some (.int .u8 s)) ∧ W.cell? ⟨w.heap.size + 1, 0, none⟩ = some (.bool false)) ∧ W.frozen? ⟨w.heap.size + 1, 0, none⟩ = false) ∧ W.cell? ⟨w1.heap.size, 0, none⟩ = some (.int .i64 k) ∧ W.frozen? ⟨w1.heap.size, 0, none⟩ = false) ∧ Below w.heap.size w W)
    (fun c k W => (((((c = .exit 0 ∧ (k : Int) = s + 1) ∧ W.cell? ⟨w.heap.size, 0, none⟩ = some (.int .u8 s)) ∧ W.cell? ⟨w.heap.size + 1, 0, none⟩ = some (.bool false)) ∧ W.frozen? ⟨w.heap.size + 1, 0, none⟩ = false) ∧ W.cell? ⟨w1.heap.size, 0, none⟩ = some (.int .i64 s)) ∧ Below w.heap.size w W)
    (Seq.Stab.own (OwnFrom.and (Own.from (fun k A B row hs hg hr => ⟨⟨⟨⟨hs.1.1.1.1, cell_kept hs.1.1.1.2 hg hr⟩, cell_kept hs.1.1.2 hg hr⟩, (frozen_kept hs.1.1.2 hg hr).trans hs.1.2⟩, cell_kept hs.2.1 hg hr, (frozen_kept hs.2.1 hg hr).trans hs.2.2⟩) _) (ownFrom_below (Nat.le_refl _) (by simp; omega))))
    (fun c => Seq.Stab.own (OwnFrom.and (Own.from (fun k A B row hs hg hr => ⟨⟨⟨⟨hs.1.1.1.1, cell_kept hs.1.1.1.2 hg hr⟩, cell_kept hs.1.1.2 hg hr⟩, (frozen_kept hs.1.1.2 hg hr).trans hs.1.2⟩, cell_kept hs.2 hg hr⟩) _) (ownFrom_below (Nat.le_refl _) (by simp; omega))))
    ⟨⟨⟨⟨⟨s0, k1⟩, k2⟩, k3⟩, k4, k5⟩, HB⟩
    (fun x t => (((t.setIfInBounds 13 (.int .i64 (x : Int))).setIfInBounds 14 (.string (wordB x))).setIfInBounds 5 (.int .i64 (x : Int))).setIfInBounds 6 (.string (wordB x))) ?assign ?body ?done ?stop
  case assign =>
    intro l x W K hK
    unfold encOp
    simp at hK ⊢
    gi_wp2
    exact hK
  case body =>
    rintro l k x W hl ⟨r, hr⟩ hx ⟨⟨⟨⟨⟨hks, cs⟩, cr⟩, fr⟩, cn, fn⟩, hB⟩
    obtain ⟨hlt, rfl⟩ : k < 12 ∧ k = x := by
      have := List.getElem?_eq_some_iff.1 hx
      obtain ⟨h1, h2⟩ := this
      simp at h1 h2; exact ⟨h1, h2⟩
    have NM := fun w => refname_calls (k : Int) w
    have NE := nameB_ne (k : Int)
    have NE2 := nameB_emp (k : Int)
    rw [decide_eq_true (by omega : 0 ≤ (k : Int) ∧ (k : Int) < 12)] at NE NE2
    rw [name_word k hlt] at NM NE NE2
    have HN := Lib.hid NM
    clear NM hx
    simp only [Bool.not_true] at NE NE2
    generalize wordB k = b at *
    simp
    by_cases hlt2 : (k : Int) < s
    · gi_wp2_with (gi_at_call 17; refine (Seq.of_calls (HN.out _)).mono ?_; rintro e w2 ⟨rfl, rfl⟩)
      have hne1 : w.heap.size ≠ w1.heap.size := by omega
      have hne2 : w.heap.size + 1 ≠ w1.heap.size := by omega
      exact ⟨kf_set (KeepsFrom.refl _ _) _ _, ⟨(Below.refl _ _).setCell (by simp; omega) _, fun h => by cases h⟩, ⟨⟨⟨⟨by omega, by go_simp⟩, by go_simp⟩, by go_simp⟩, by go_simp, by go_simp⟩, hB.setCell (by simp; omega) _⟩
    · have hks2 : (k : Int) = s := by omega
      gi_wp2
      exact ⟨KeepsFrom.refl _ _, ⟨⟨⟨⟨⟨⟨rfl, by simp; omega⟩, cs⟩, cr⟩, fr⟩, by rw [cn, hks2]⟩, hB⟩⟩
  case done =>
    rintro D W hD ⟨⟨⟨⟨⟨hks, cs⟩, cr⟩, fr⟩, cn, fn⟩, hB⟩ hK
    simp only [List.length_range] at hks cn
    have hD2 : w1.heap.size + 1 ≤ D := by simpa using hD
    by_cases h12 : 12 < s
    rotate_left
    obtain rfl : s = 12 := by omega
    all_goals gi_wp2
    all_goals
      have hK' := (KeepsOthers.setCell W ⟨w.heap.size + 1, 0, none⟩ (.bool true)).same D _ hK rfl
      have hc5 := cell_kept (World.cell?_setCell_same' W ⟨w.heap.size + 1, 0, none⟩ (.bool true) (by rw [cr]; rfl)) (grownBy_putObj' _ D (.deferred none)) (fun r e => by cases e; exact ⟨_, hK', rfl⟩)
      refine ⟨by simp, .inl ⟨_, _, rfl, run_takeDeferred hK', ?_⟩⟩
      refine ⟨.bool true, ?_, rfl, (hB.setCell (p := ⟨w.heap.size + 1, 0, none⟩) (by simp) _).trans (belowK_b (w := w) (Nat.le_refl _) _ D _ _ (by omega) hK' rfl rfl)⟩
      simp [results, Tryd.f9, go_sem, hc5]
  case stop =>
    rintro D c k W hD hk ⟨⟨⟨⟨⟨⟨rfl, hks⟩, cs⟩, cr⟩, fr⟩, cn⟩, hB⟩ hK
    simp only [List.length_range] at hk
    have hD2 : w1.heap.size + 1 ≤ D := by simpa using hD
    gi_wp2
    all_goals
      have hK' := (KeepsOthers.setCell W ⟨w.heap.size + 1, 0, none⟩ (.bool true)).same D _ hK rfl
      have hc5 := cell_kept (World.cell?_setCell_same' W ⟨w.heap.size + 1, 0, none⟩ (.bool true) (by rw [cr]; rfl)) (grownBy_putObj' _ D (.deferred none)) (fun r e => by cases e; exact ⟨_, hK', rfl⟩)
      refine ⟨by simp, .inl ⟨_, _, rfl, run_takeDeferred hK', ?_⟩⟩
      refine ⟨.bool true, ?_, rfl, (hB.setCell (p := ⟨w.heap.size + 1, 0, none⟩) (by simp) _).trans (belowK_b (w := w) (Nat.le_refl _) _ D _ _ (by omega) hK' rfl rfl)⟩
      simp [results, Tryd.f9, go_sem, hc5]
end Go.Proofs.YtpmfcedhmfgkiaaDoor.Ops
