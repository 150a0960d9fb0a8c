/- The told steps of a root (law02's told), walked. For all numbers, however many steps are asked for. -/
import Derived.Test.YtdhhkabihmdbnaaRootB
import Derived.Test.YtdhhkabihmdbnaaSeqRow
namespace Go.Proofs.Ytdhhkabihmdbnaa.Root
open Go Go.RowKit Go.Shelf Range
set_option maxRecDepth 100000
set_option linter.unusedVariables false
set_option linter.unusedSimpArgs false
attribute [local go_sem] Oper.semAt_some

theorem info_u64 : (Try.prog.info? 53).map (fun i => (i.zero, i.size, i.bytes)) = some (some (.int .u64 0), 1, 8) := by kernel_rfl
theorem new1 (w : World) (a : Value) (t : TypeId) : ∀ j u, [a][j]? = some u → (w.alloc (.cells #[a] t)).cell? ⟨w.heap.size, j, none⟩ = some u := by
  intro j u hj
  match j, hj with
  | 0, hj => simp at hj ⊢; exact hj
theorem one1 (k : IntKind) (a : Int) : ∀ u ∈ ([.int k a] : List Value), u.oneCell' = true := by intro u hu; simp at hu; subst hu; rfl
def mk (xs : List Int) : List Value := xs.map (.int .u64)
theorem mk_snoc {xs : List Int} {k : Nat} {x : Int} (h : xs[k]? = some x) : mk (xs.take (k + 1)) = mk (xs.take k) ++ [.int .u64 x] := by
  obtain ⟨hk, rfl⟩ := List.getElem?_eq_some_iff.1 h
  unfold mk; rw [List.take_succ_eq_append_getElem hk, List.map_append]; rfl

set_option maxHeartbeats 8000000 in
theorem told_calls (N : Int) (N0 : 0 ≤ N) (N1 : N < 18446744073709551616) (m : Nat) (hm : m ≤ 1000) (w : World) : Calls Try.prog 30 #[.int .u64 N, .int .i64 (m : Int)] w fun e w' => ∃ v k, e = .returned v ∧ k = min m (steps N).length ∧ Row.OwnR 53 1 w.heap.size w w' v k (mk ((steps N).take k)) := by
  have ST := Lib.hid (fun w => steps_calls N w)
  have SG := Lib.hid (fun n₀ Bn => steps_gives n₀ Bn N N0 N1)
  have NF := fun c => neq_func_nil (P := Try.prog) Try.underlying78 (.func 46) #[] c
  generalize steps N = xs at *
  refine Seq.calls_of (n := 0) (callsIn_of_wp_marks Try.func30 rfl trivial ?_ rfl)
  simp only [Try.ntmps30, List.size_toArray, List.length_cons, List.length_nil, Nat.reduceAdd, Nat.reduceSub, Array.replicate_succ, Array.replicate_zero, List.push_toArray, List.append_toArray, List.nil_append, List.cons_append]
  gi_wp2_with (gi_at_call 35; refine (Seq.of_calls (ST.out _)).mono ?_; rintro e w2 ⟨rfl, rfl⟩)
  obtain ⟨W0, hW0⟩ : ∃ W0, ((w.alloc (.cells #[.int .i64 (m : Int)] 3)).alloc (.cells #[.slice none 0 0] 66)).alloc (.cells #[.int .u64 N] 53) = W0 := ⟨_, rfl⟩
  have HB : Below w.heap.size w W0 := by rw [← hW0]; (repeat' (first | (with_reducible exact Below.refl _ _) | (with_reducible refine Below.drew ?_) | (with_reducible refine below_drewN ?_ _) | ((with_reducible refine Below.setCell ?_ ?side_ _); case side_ => (first | (with_reducible exact Nat.le_refl _) | (with_reducible assumption) | omega | (simp; done) | (simp; omega))) | ((with_reducible refine Below.alloc ?_ ?side_ _); case side_ => (first | (with_reducible exact Nat.le_refl _) | (with_reducible assumption) | omega | (simp; done) | (simp; omega)))))
  have hsz : W0.heap.size = w.heap.size + 3 := by rw [← hW0]; simp
  have k1 : W0.cell? ⟨w.heap.size, 0, none⟩ = some (.int .i64 (m : Int)) := by subst hW0; go_simp
  have k2 : W0.cell? ⟨w.heap.size + 1, 0, none⟩ = some (.slice none 0 0) := by subst hW0; go_simp
  have k3 : W0.frozen? ⟨w.heap.size + 1, 0, none⟩ = false := by subst hW0; go_simp
  have k4 : W0.cell? ⟨w.heap.size + 1 + 1, 0, none⟩ = some (.int .u64 N) := by subst hW0; go_simp
  rw [hW0]
  clear hW0
  refine Seq.range (priv := false) (n₀ := w.heap.size) rfl (enters_of Try.func46 (by kernel_rfl) rfl) (SG.out w.heap.size (w.heap.size + 1 + 1) W0 (by omega) k4) (by omega) (fun b hb => by simp at hb; omega) (Below.refl _ _) (fun _ => rfl)
    (fun k W => (k ≤ m ∧ W.cell? ⟨w.heap.size, 0, none⟩ = some (.int .i64 (m : Int))) ∧ ∃ v, (W.cell? ⟨w.heap.size + 1, 0, none⟩ = some v ∧ W.frozen? ⟨w.heap.size + 1, 0, none⟩ = false) ∧ Row.OwnR 53 1 W0.heap.size w W v k (mk (xs.take k)))
    (fun c k W => (c = .exit 0 ∧ k = m + 1) ∧ ∃ v, W.cell? ⟨w.heap.size + 1, 0, none⟩ = some v ∧ Row.OwnR 53 1 W0.heap.size w W v m (mk (xs.take m)))
    (Seq.Stab.own (fun k A B row hs hg hr => by
      obtain ⟨⟨h1, h2⟩, v, ⟨h3, h4⟩, h5⟩ := hs
      have hr' := fun r e => (hr r e).2
      exact ⟨⟨h1, cell_kept h2 hg hr'⟩, v, ⟨cell_kept h3 hg hr', (frozen_kept h3 hg hr').trans h4⟩, h5.kept hg (by omega) hr⟩))
    (fun c => Seq.Stab.own (fun k A B row hs hg hr => by
      obtain ⟨h1, v, h3, h5⟩ := hs
      have hr' := fun r e => (hr r e).2
      exact ⟨h1, v, cell_kept h3 hg hr', h5.kept hg (by omega) hr⟩))
    ⟨⟨Nat.zero_le _, k1⟩, _, ⟨k2, k3⟩, Row.OwnR.nil HB (by omega) (Nat.le_refl _)⟩
    (fun x t => (t.setIfInBounds 13 (.int .u64 x)).setIfInBounds 7 (.int .u64 x)) ?assign ?body ?done ?stop
  case assign =>
    intro l x W K hK
    unfold encU
    simp at hK ⊢
    gi_wp2
    exact hK
  case body =>
    rintro l k x W hl ⟨r, hr⟩ hx ⟨⟨hkm, c1⟩, v, ⟨c2, f2⟩, hO⟩
    obtain ⟨A, cap, rfl, h1, h2, _, _⟩ := hO.read
    have hs := Lib.hid (mk_snoc hx)
    have hOO := Lib.hid hO
    clear hx
    have hWs := hO.hi
    have hhi : w.heap.size + 1 < W.heap.size := by omega
    have hbx : (W.cell? ⟨w.heap.size + 1, 0, none⟩).isSome = true := by rw [c2]; rfl
    simp
    by_cases hlt : k < m
    · gi_wp2_with (gi_at_builtin; refine Row.app_in rfl _ _ rfl Try.underlying66 info_u64 rfl (by decide) (by decide) rfl (hO.alloc _) _ _ rfl (new1 _ _ _) rfl (one1 _ _) (by omega) ?_; intro v' w3 hO3 hg3; obtain ⟨p1, p2, p3, p4, p5, p6, p7, p8⟩ := Row.pushed (Bk := W0.heap.size) (n₀ := w.heap.size) hO (by omega) (by omega) (Nat.le_refl _) (by omega) hg3 hO3 hbx f2; have c3 := p7.trans c2; have f3 := p8.trans f2; clear p7 p8; obtain ⟨A', cap', rfl, _, _, _, _⟩ := hO3.read)
      have c1' := (World.cell?_of_block (w := W) (a := ⟨w.heap.size, 0, none⟩) (p3 w.heap.size (by omega) (by omega))).trans c1
      exact ⟨p1, Seq.Kept.of p2 (fun b hb => by simp at hb; subst hb; exact p3 _ (by omega) (by omega)), ⟨by omega, c1'⟩, _, ⟨p5, p6⟩, by rw [hs.out]; exact p4⟩
    · obtain rfl : k = m := by omega
      gi_wp2
      exact ⟨KeepsFrom.refl _ _, ⟨rfl, rfl⟩, _, c2, hOO.out⟩
  case done =>
    rintro D W hD ⟨⟨hkm, c1⟩, v, ⟨c2, f2⟩, hO⟩ hK
    have hO2 := (hO.put (.deferred none) (by omega) hK rfl).lower (B' := w.heap.size) (Nat.le_refl _) (by omega)
    obtain ⟨A, cap, rfl, _, _, _, _⟩ := hO.read
    gi_wp2
    refine ⟨by simp, .inl ⟨_, _, rfl, run_takeDeferred hK, ?_⟩⟩
    exact ⟨.slice A xs.length cap, by simp [results, Try.f30, go_sem], _, xs.length, rfl, by omega, hO2⟩
  case stop =>
    rintro D c k W hD hk ⟨⟨rfl, rfl⟩, v, c2, hO⟩ hK
    have hO2 := (hO.put (.deferred none) (by omega) hK rfl).lower (B' := w.heap.size) (Nat.le_refl _) (by omega)
    obtain ⟨A, cap, rfl, _, _, _, _⟩ := hO.read
    gi_wp2
    refine ⟨by simp, .inl ⟨_, _, rfl, run_takeDeferred hK, ?_⟩⟩
    exact ⟨.slice A m cap, by simp [results, Try.f30, go_sem], _, m, rfl, by omega, hO2⟩
end Go.Proofs.Ytdhhkabihmdbnaa.Root
