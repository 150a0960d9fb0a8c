/- Package root's Floor, walked: the root of any number of 64 bits. For all numbers. -/
import Derived.Test.YtdhhkabihmdbnaaRootA
namespace Go.Proofs.Ytdhhkabihmdbnaa.Root
open Go Go.RowKit Go.Shelf Range
set_option maxRecDepth 100000
set_option linter.unusedVariables false
set_option linter.unusedSimpArgs false
attribute [local go_sem] Oper.semAt_some

set_option maxHeartbeats 8000000 in
theorem floor_calls (N : Int) (N0 : 0 ≤ N) (N1 : N < 18446744073709551616) (w : World) : Calls Try.prog 24 #[.int .u64 N] w fun e w' => e = .returned (.int .u64 (rootF N)) ∧ Below w.heap.size w w' := by
  have ST := Lib.hid (fun w => steps_calls N w)
  have SG := Lib.hid (fun n₀ Bn => steps_gives n₀ Bn N N0 N1)
  have HL := Lib.hid (lastOf_all (steps N))
  have HF := Lib.hid (steps_last N)
  have HS := Lib.hid (fun k x => @lastOf_succ (steps N) k x)
  have H0 := Lib.hid (show lastOf (steps N) 0 = 0 by simp [lastOf])
  generalize rootF N = F at *
  generalize steps N = xs at *
  refine Seq.calls_of (n := 0) (callsIn_of_wp_marks Try.func24 rfl trivial ?_ rfl)
  simp only [Try.ntmps24, List.size_toArray, List.length_cons, List.length_nil, Nat.reduceAdd, Nat.reduceSub, Array.replicate_succ, Array.replicate_zero, List.push_toArray, List.append_toArray, List.nil_append, List.cons_append]
  gi_wp2_with (gi_at_call 35; refine (Seq.of_calls (ST.out _)).mono ?_; rintro e w2 ⟨rfl, rfl⟩)
  obtain ⟨W0, hW0⟩ : ∃ W0, (w.alloc (.cells #[.int .u64 0] 53)).alloc (.cells #[.int .u64 N] 53) = W0 := ⟨_, rfl⟩
  have HB : Below w.heap.size w W0 := by rw [← hW0]; (repeat' (first | (with_reducible exact Below.refl _ _) | (with_reducible refine Below.drew ?_) | (with_reducible refine below_drewN ?_ _) | ((with_reducible refine Below.setCell ?_ ?side_ _); case side_ => (first | (with_reducible exact Nat.le_refl _) | (with_reducible assumption) | omega | (simp; done) | (simp; omega))) | ((with_reducible refine Below.alloc ?_ ?side_ _); case side_ => (first | (with_reducible exact Nat.le_refl _) | (with_reducible assumption) | omega | (simp; done) | (simp; omega)))))
  have hsz : W0.heap.size = w.heap.size + 2 := by rw [← hW0]; simp
  have k1 : W0.cell? ⟨w.heap.size, 0, none⟩ = some (.int .u64 0) := by subst hW0; go_simp
  have k2 : W0.frozen? ⟨w.heap.size, 0, none⟩ = false := by subst hW0; go_simp
  have k3 : W0.cell? ⟨w.heap.size + 1, 0, none⟩ = some (.int .u64 N) := by subst hW0; go_simp
  try simp only [World.size_alloc]
  rw [hW0]
  clear hW0
  refine Seq.range (priv := false) (n₀ := w.heap.size) rfl (enters_of Try.func46 (by kernel_rfl) rfl) (SG.out w.heap.size (w.heap.size + 1) W0 (by omega) k3) (by omega) (fun b hb => by simp at hb; omega) (Below.refl _ _) (fun _ => rfl)
    (fun k W => (W.cell? ⟨w.heap.size, 0, none⟩ = some (.int .u64 (lastOf xs k)) ∧ W.frozen? ⟨w.heap.size, 0, none⟩ = false) ∧ Below w.heap.size w W)
    (fun _ _ _ => False)
    (Seq.Stab.own (OwnFrom.and (Own.from (fun k A B row hs hg hr => ⟨cell_kept hs.1 hg hr, (frozen_kept hs.1 hg hr).trans hs.2⟩) _) (ownFrom_below (Nat.le_refl _) (by omega))))
    (fun c => Seq.Stab.own (fun _ _ _ _ hs _ _ => hs))
    ⟨⟨by rw [H0.out]; exact k1, k2⟩, HB⟩
    (fun x t => (t.setIfInBounds 7 (.int .u64 x)).setIfInBounds 4 (.int .u64 x)) ?assign ?body ?done ?stop
  case assign =>
    intro l x W K hK
    unfold encU
    simp at hK ⊢
    gi_wp2
    exact hK
  case body =>
    rintro l k x W hl ⟨r, hr⟩ hx ⟨⟨c1, f1⟩, hB⟩
    have hs := Lib.hid (HS.out k x hx)
    clear hx
    simp
    gi_wp2
    exact ⟨kf_set (KeepsFrom.refl _ _) _ _, Seq.Kept.of ((Below.refl _ _).setCell (by simp) _) (fun b hb => Below.heap_setCell _ _ _ _ (by simp at hb; simp; omega)), ⟨by rw [hs.out]; go_simp, by go_simp⟩, hB.setCell (by simp) _⟩
  case done =>
    rintro D W hD ⟨⟨c1, f1⟩, hB⟩ hK
    rw [HL.out, HF.out] at c1
    gi_wp2
    refine ⟨by simp, .inl ⟨_, _, rfl, run_takeDeferred hK, ?_⟩⟩
    exact ⟨_, results_tmp rfl _ _ _, rfl, hB.trans (belowK_b (w := w) (Nat.le_refl _) _ D _ _ (by omega) hK rfl rfl)⟩
  case stop =>
    rintro D c k W hD hk h hK
    exact h.elim
end Go.Proofs.Ytdhhkabihmdbnaa.Root
