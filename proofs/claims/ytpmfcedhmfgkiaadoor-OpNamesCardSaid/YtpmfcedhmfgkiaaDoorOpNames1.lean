/- Package op's Op, walked: a word's operator, or none. In any world that holds the table. -/
import Derived.Test.YtpmfcedhmfgkiaaDoorOpNames0
namespace Go.Proofs.YtpmfcedhmfgkiaaDoor.Ops
open Go Go.RowKit Go.Shelf Range
set_option maxRecDepth 100000
set_option linter.unusedVariables false
set_option linter.unusedSimpArgs false
attribute [local go_sem] Oper.semAt_some

set_option maxHeartbeats 8000000 in
theorem opop_calls (b : ByteArray) (w : World) (hk : Kinds w) : Calls Tryd.prog 26 #[.string b] w fun e w' => e = .returned (.tuple #[.int .i64 (max (findW b) 0), .bool (decide (0 ≤ findW b))]) ∧ Below w.heap.size w w' := by
  have AL := Lib.hid all_calls
  obtain ⟨F, hF⟩ : ∃ F, findW b = F := ⟨_, rfl⟩
  rw [hF]
  have HF := Lib.hid hF
  clear hF
  refine Seq.calls_of (n := 0) (callsIn_of_wp_marks Tryd.func26 rfl trivial ?_ rfl)
  simp only [Tryd.ntmps26, List.size_toArray, List.length_cons, List.length_nil, Nat.reduceAdd, Nat.reduceSub, Array.replicate_succ, Array.replicate_zero, List.push_toArray, List.append_toArray, List.nil_append, List.cons_append]
  gi_wp2_with (gi_at_call 25; refine (Seq.of_calls (AL.out _)).mono ?_; rintro e w2 ⟨rfl, rfl⟩)
  obtain ⟨W0, hW0⟩ : ∃ W0, ((w.alloc (.cells #[.string b] 9)).alloc (.cells #[.int .i64 0] 3)).alloc (.cells #[.bool false] 4) = W0 := ⟨_, rfl⟩
  have HB : Below w.heap.size w W0 := by rw [← hW0]; (repeat' (first | (with_reducible exact Below.refl _ _) | (with_reducible refine Below.drew ?_) | (with_reducible refine below_drewN ?_ _) | ((with_reducible refine Below.setCell ?_ ?side_ _); case side_ => (first | (with_reducible exact Nat.le_refl _) | (with_reducible assumption) | omega | (simp; done) | (simp; omega))) | ((with_reducible refine Below.alloc ?_ ?side_ _); case side_ => (first | (with_reducible exact Nat.le_refl _) | (with_reducible assumption) | omega | (simp; done) | (simp; omega)))))
  have hsz : W0.heap.size = w.heap.size + 3 := by rw [← hW0]; simp
  have k1 : W0.cell? ⟨w.heap.size, 0, none⟩ = some (.string b) := by subst hW0; go_simp
  have k2 : W0.cell? ⟨w.heap.size + 1, 0, none⟩ = some (.int .i64 0) := by subst hW0; go_simp
  have k3 : W0.frozen? ⟨w.heap.size + 1, 0, none⟩ = false := by subst hW0; go_simp
  have k4 : W0.cell? ⟨w.heap.size + 1 + 1, 0, none⟩ = some (.bool false) := by subst hW0; go_simp
  have k5 : W0.frozen? ⟨w.heap.size + 1 + 1, 0, none⟩ = false := by subst hW0; go_simp
  rw [hW0]
  clear hW0
  refine Seq.range (priv := false) (n₀ := w.heap.size) rfl (enters_of Tryd.func31 (by kernel_rfl) rfl) (all_gives w.heap.size _ (hk.below HB)) (by omega) (Below.refl _ _) (fun _ => rfl)
    (fun k W => (((∀ j, j < k → isW b j = false) ∧ W.cell? ⟨w.heap.size, 0, none⟩ = some (.string b)) ∧ (W.cell? ⟨w.heap.size + 1, 0, none⟩ = some (.int .i64 0) ∧ W.frozen? ⟨w.heap.size + 1, 0, none⟩ = false) ∧ (W.cell? ⟨w.heap.size + 1 + 1, 0, none⟩ = some (.bool false) ∧ W.frozen? ⟨w.heap.size + 1 + 1, 0, none⟩ = false)) ∧ Below w.heap.size w W)
    (fun c k W => ((c = .ret ∧ 0 ≤ F ∧ k ≤ 12) ∧ W.cell? ⟨w.heap.size + 1, 0, none⟩ = some (.int .i64 F) ∧ W.cell? ⟨w.heap.size + 1 + 1, 0, none⟩ = some (.bool true)) ∧ Below w.heap.size w W)
    (Seq.Stab.own (OwnFrom.and (Own.from (fun k A B row hs hg hr => ⟨⟨hs.1.1, cell_kept hs.1.2 hg hr⟩, ⟨cell_kept hs.2.1.1 hg hr, (frozen_kept hs.2.1.1 hg hr).trans hs.2.1.2⟩, cell_kept hs.2.2.1 hg hr, (frozen_kept hs.2.2.1 hg hr).trans hs.2.2.2⟩) _) (ownFrom_below (Nat.le_refl _) (by omega))))
    (fun c => Seq.Stab.own (OwnFrom.and (Own.from (fun k A B row hs hg hr => ⟨hs.1, cell_kept hs.2.1 hg hr, cell_kept hs.2.2 hg hr⟩) _) (ownFrom_below (Nat.le_refl _) (by omega))))
    ⟨⟨⟨fun j hj => by omega, k1⟩, ⟨k2, k3⟩, k4, k5⟩, HB⟩
    (fun x t => (((t.setIfInBounds 7 (.int .i64 (x : Int))).setIfInBounds 8 (.string (wordB x))).setIfInBounds 4 (.int .i64 (x : Int))).setIfInBounds 5 (.string (wordB x))) ?assign ?body ?done ?stop
  case assign =>
    intro l x W K hK
    unfold encOp
    simp at hK ⊢
    gi_wp2
    exact hK
  case body =>
    rintro l k x W hl ⟨r, hr⟩ hx ⟨⟨⟨hno, cb⟩, ⟨c1, f1⟩, c2, f2⟩, hB⟩
    obtain ⟨hlt, rfl⟩ : k < 12 ∧ k = x := by
      have := List.getElem?_eq_some_iff.1 hx
      obtain ⟨h1, h2⟩ := this
      simp at h1 h2; exact ⟨h1, h2⟩
    have HN := Lib.hid hno
    clear hno hx
    simp
    by_cases hp : isW b k = true
    · obtain rfl : F = (k : Int) := by rw [← HF.out]; exact findW_some hlt hp HN.out
      clear HF HN
      unfold isW at hp
      generalize wordB k = nm at *
      gi_wp2
      exact ⟨kf_set (kf_set (KeepsFrom.refl _ _) _ _) _ _, ⟨⟨rfl, by omega, by omega⟩, by go_simp, by go_simp⟩, (hB.setCell (by simp) _).setCell (by simp; omega) _⟩
    · have hp' := Bool.eq_false_iff.2 hp
      have HP := Lib.hid hp'
      clear hp
      unfold isW at hp'
      generalize hnm : wordB k = nm at *
      clear hnm
      gi_wp2
      exact ⟨KeepsFrom.refl _ _, Seq.Kept.refl, ⟨⟨fun j hj => by
          by_cases e : j = k
          · subst e; exact HP.out
          · exact HN.out j (by omega), cb⟩, ⟨c1, f1⟩, c2, f2⟩, hB⟩
  case done =>
    rintro D W hD ⟨⟨⟨hno, cb⟩, ⟨c1, f1⟩, c2, f2⟩, hB⟩ hK
    simp only [List.length_range] at hno
    obtain rfl : F = -1 := by rw [← HF.out]; exact findW_none hno
    clear hno HF
    gi_wp2
    have d1 : ((W.setCell ⟨w.heap.size + 1, 0, none⟩ (.int .i64 0)).setCell ⟨w.heap.size + 1 + 1, 0, none⟩ (.bool false)).cell? ⟨w.heap.size + 1, 0, none⟩ = some (.int .i64 0) := by go_simp
    have d2 : ((W.setCell ⟨w.heap.size + 1, 0, none⟩ (.int .i64 0)).setCell ⟨w.heap.size + 1 + 1, 0, none⟩ (.bool false)).cell? ⟨w.heap.size + 1 + 1, 0, none⟩ = some (.bool false) := by go_simp
    have hK' := ((KeepsOthers.setCell W ⟨w.heap.size + 1, 0, none⟩ (.int .i64 0)).trans (KeepsOthers.setCell _ ⟨w.heap.size + 1 + 1, 0, none⟩ (.bool false))).same D _ hK rfl
    refine ⟨by simp, .inl ⟨_, _, rfl, run_takeDeferred hK', ?_⟩⟩
    have hc1 := cell_kept d1 (grownBy_putObj' _ D (.deferred none)) (fun r e => by cases e; exact ⟨_, hK', rfl⟩)
    have hc2 := cell_kept d2 (grownBy_putObj' _ D (.deferred none)) (fun r e => by cases e; exact ⟨_, hK', rfl⟩)
    refine ⟨.tuple #[.int .i64 0, .bool false], ?_, rfl, ((hB.setCell (p := ⟨w.heap.size + 1, 0, none⟩) (by simp) _).setCell (p := ⟨w.heap.size + 1 + 1, 0, none⟩) (by simp; omega) _).trans (belowK_b (w := w) (Nat.le_refl _) _ D _ _ (by omega) hK' rfl rfl)⟩
    simp [results, Tryd.f26, go_sem, hc1, hc2]
  case stop =>
    rintro D c k W hD hk ⟨⟨⟨rfl, h0, _⟩, c1, c2⟩, hB⟩ hK
    gi_wp2
    refine ⟨by simp, .inl ⟨_, _, rfl, run_takeDeferred hK, ?_⟩⟩
    have hc1 := cell_kept c1 (grownBy_putObj' _ D (.deferred none)) (fun r e => by cases e; exact ⟨_, hK, rfl⟩)
    have hc2 := cell_kept c2 (grownBy_putObj' _ D (.deferred none)) (fun r e => by cases e; exact ⟨_, hK, rfl⟩)
    refine ⟨.tuple #[.int .i64 F, .bool true], ?_, by rw [decide_eq_true h0]; simp; omega, hB.trans (belowK_b (w := w) (Nat.le_refl _) _ D _ _ (by omega) hK rfl rfl)⟩
    simp [results, Tryd.f26, go_sem, hc1, hc2]
end Go.Proofs.YtpmfcedhmfgkiaaDoor.Ops
