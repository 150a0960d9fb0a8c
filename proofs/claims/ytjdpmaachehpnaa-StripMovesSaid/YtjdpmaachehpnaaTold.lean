/- The told strips (law15's told), walked: the first ones of an edge's strips, as many as are asked for. For all edges and heights that may be asked about. -/
import Derived.Test.YtjdpmaachehpnaaStripA
import Derived.Test.YtjdpmaachehpnaaKd
namespace Go.Proofs.Ytjdpmaachehpnaa.Strip
open Go Go.RowKit Go.Shelf Range Go.Proofs.YtjdpmaachehpnaaW.PrintWords Go.Proofs.Ytjdpmaachehpnaa.PE
set_option maxRecDepth 100000
set_option linter.unusedVariables false
set_option linter.unusedSimpArgs false
attribute [local go_sem] Oper.semAt_some

def cR (x : Rw) : List Value := [.int .i64 x.f0, .int .i64 x.f1.f0, .int .i64 x.f1.f1, .int .i64 x.f1.f2, .int .i64 x.f1.f3]
theorem info_row : (Try.prog.info? 34).map (fun i => (i.zero, i.size, i.bytes)) = some (some (.agg #[.int .i64 0, .int .i64 0, .int .i64 0, .int .i64 0, .int .i64 0]), 5, 40) := by kernel_rfl
theorem newR (w : World) (x : Rw) (t : TypeId) : ∀ j u, (cR x)[j]? = some u → (w.alloc (.cells #[.int .i64 x.f0, .int .i64 x.f1.f0, .int .i64 x.f1.f1, .int .i64 x.f1.f2, .int .i64 x.f1.f3] t)).cell? ⟨w.heap.size, j, none⟩ = some u := by
  intro j u hj
  match j, hj with
  | 0, hj => simp [cR] at hj ⊢; exact hj
  | 1, hj => simp [cR] at hj ⊢; exact hj
  | 2, hj => simp [cR] at hj ⊢; exact hj
  | 3, hj => simp [cR] at hj ⊢; exact hj
  | 4, hj => simp [cR] at hj ⊢; exact hj
theorem new4 (w : World) (x : Rw) (t : TypeId) : ∀ j u, ([.int .i64 x.f1.f0, .int .i64 x.f1.f1, .int .i64 x.f1.f2, .int .i64 x.f1.f3] : List Value)[j]? = some u → (w.alloc (.cells #[.int .i64 x.f1.f0, .int .i64 x.f1.f1, .int .i64 x.f1.f2, .int .i64 x.f1.f3] t)).cell? ⟨w.heap.size, j, none⟩ = some u := by
  intro j u hj
  match j, hj with
  | 0, hj => simp at hj ⊢; exact hj
  | 1, hj => simp at hj ⊢; exact hj
  | 2, hj => simp at hj ⊢; exact hj
  | 3, hj => simp at hj ⊢; exact hj
theorem oneR (x : Rw) : ∀ u ∈ cR x, u.oneCell' = true := by
  intro u hu; simp [cR] at hu; rcases hu with rfl | rfl | rfl | rfl | rfl <;> rfl

set_option maxHeartbeats 8000000 in
theorem told_calls (px py qx qy h : Int) (hd : Dom px py qx qy h) (m : Nat) (hm : m ≤ 1000) (w : World) : Calls Try.prog 16 #[.agg #[.int .i64 px, .int .i64 py, .int .i64 qx, .int .i64 qy], .int .i64 h, .int .i64 (m : Int)] w fun e w' => ∃ v k, e = .returned v ∧ k = min m (strips px py qx qy h).length ∧ Row.OwnR 34 5 w.heap.size w w' v k (((strips px py qx qy h).take m).flatMap cR) := by
  have AL := Lib.hid (fun w => all_calls px py qx qy h w)
  have SG := Lib.hid (fun n₀ B1 B2 => all_gives n₀ B1 B2 px py qx qy h hd)
  have NF := fun c => neq_func_nil (P := Try.prog) Try.underlying63 (.func 37) #[] c
  clear hd
  generalize strips px py qx qy h = xs at *
  refine Seq.calls_of (n := 0) (callsIn_of_wp_marks Try.func16 rfl trivial ?_ rfl)
  simp only [Try.ntmps16, List.size_toArray, List.length_cons, List.length_nil, Nat.reduceAdd, Nat.reduceSub, Array.replicate_succ, Array.replicate_zero, List.push_toArray, List.append_toArray, List.nil_append, List.cons_append]
  gi_wp2_with (gi_at_call 30; refine (Seq.of_calls (AL.out _)).mono ?_; rintro e w2 ⟨rfl, rfl⟩)
  obtain ⟨W0, hW0⟩ : ∃ W0, ((((w.alloc (.cells #[.int .i64 px, .int .i64 py, .int .i64 qx, .int .i64 qy] 25)).alloc (.cells #[.int .i64 (m : Int)] 3)).alloc (.cells #[.slice none 0 0] 28)).alloc (.cells #[.int .i64 px, .int .i64 py, .int .i64 qx, .int .i64 qy] 25)).alloc (.cells #[.int .i64 h] 3) = W0 := ⟨_, rfl⟩
  have HB : Below w.heap.size w W0 := by rw [← hW0]; (repeat' (first | (with_reducible exact Below.refl _ _) | (with_reducible refine Below.drew ?_) | (with_reducible refine below_drewN ?_ _) | ((with_reducible refine Below.setCell ?_ ?side_ _); case side_ => (first | (with_reducible exact Nat.le_refl _) | (with_reducible assumption) | omega | (simp; done) | (simp; omega))) | ((with_reducible refine Below.alloc ?_ ?side_ _); case side_ => (first | (with_reducible exact Nat.le_refl _) | (with_reducible assumption) | omega | (simp; done) | (simp; omega)))))
  have hsz : W0.heap.size = w.heap.size + 5 := by rw [← hW0]; simp
  have k1 : W0.cell? ⟨w.heap.size + 1, 0, none⟩ = some (.int .i64 (m : Int)) := by subst hW0; go_simp
  have k2 : W0.cell? ⟨w.heap.size + 1 + 1, 0, none⟩ = some (.slice none 0 0) := by subst hW0; go_simp
  have k3 : W0.frozen? ⟨w.heap.size + 1 + 1, 0, none⟩ = false := by subst hW0; go_simp
  have q0 : W0.cell? ⟨w.heap.size + 3, 0, none⟩ = some (.int .i64 px) := by subst hW0; go_simp
  have q1 : W0.cell? ⟨w.heap.size + 3, 1, none⟩ = some (.int .i64 py) := by subst hW0; go_simp
  have q2 : W0.cell? ⟨w.heap.size + 3, 2, none⟩ = some (.int .i64 qx) := by subst hW0; go_simp
  have q3 : W0.cell? ⟨w.heap.size + 3, 3, none⟩ = some (.int .i64 qy) := by subst hW0; go_simp
  have q4 : W0.cell? ⟨w.heap.size + 4, 0, none⟩ = some (.int .i64 h) := by subst hW0; go_simp
  rw [hW0]
  clear hW0
  refine KdX.with_frame fun T hT => ?_
  refine Seq.range_ax (priv := false) (n₀ := w.heap.size) (by rw [hT]; rfl) (enters_of Try.func37 (by kernel_rfl) rfl) (SG.out w.heap.size (w.heap.size + 3) (w.heap.size + 4) W0 (by omega) (by omega) q0 q1 q2 q3 q4) (by omega) (fun b hb => by simp at hb; omega) (Below.refl _ _) (fun _ => rfl)
    (fun k W => (k ≤ m ∧ W0.heap.size ≤ W.heap.size ∧ W.cell? ⟨w.heap.size + 1, 0, none⟩ = some (.int .i64 (m : Int))) ∧ ∃ v, (W.cell? ⟨w.heap.size + 1 + 1, 0, none⟩ = some v ∧ W.frozen? ⟨w.heap.size + 1 + 1, 0, none⟩ = false) ∧ Row.OwnR 34 5 W0.heap.size w W v k ((xs.take k).flatMap cR))
    (fun c k W => (c = .exit 0 ∧ k = m + 1) ∧ ∃ v, W.cell? ⟨w.heap.size + 1 + 1, 0, none⟩ = some v ∧ Row.OwnR 34 5 W0.heap.size w W v m ((xs.take m).flatMap cR))
    (Seq.Stab.own (fun k A B row hs hg hr => by
      obtain ⟨⟨h1, h0, h2⟩, v, ⟨h3, h4⟩, h5⟩ := hs
      have hr' := fun r e => (hr r e).2
      exact ⟨⟨h1, Nat.le_trans h0 hg.size, cell_kept h2 hg hr'⟩, v, ⟨cell_kept h3 hg hr', (frozen_kept h3 hg hr').trans h4⟩, h5.kept hg (by omega) hr⟩))
    (fun c => Seq.Stab.own (fun k A B row hs hg hr => by
      obtain ⟨h1, v, h3, h5⟩ := hs
      have hr' := fun r e => (hr r e).2
      exact ⟨h1, v, cell_kept h3 hg hr', h5.kept hg (by omega) hr⟩))
    ⟨⟨Nat.zero_le _, Nat.le_refl _, k1⟩, _, ⟨k2, k3⟩, Row.OwnR.nil HB (by omega) (Nat.le_refl _)⟩
    (fun x a' W => ∃ g, a' = { tmps := (((T.setIfInBounds 17 (.int .i64 x.f0)).setIfInBounds 18 (.agg #[.int .i64 x.f1.f0, .int .i64 x.f1.f1, .int .i64 x.f1.f2, .int .i64 x.f1.f3])).setIfInBounds 9 (.int .i64 x.f0)).setIfInBounds 10 (.pointer (some ⟨g, 0, none⟩)), defers := [] } ∧ W0.heap.size ≤ g ∧ g < W.heap.size ∧ ∀ j u, ([.int .i64 x.f1.f0, .int .i64 x.f1.f1, .int .i64 x.f1.f2, .int .i64 x.f1.f3] : List Value)[j]? = some u → W.cell? ⟨g, j, none⟩ = some u)
    (fun x a' _ A B row hs hg hr => by
      obtain ⟨g, h1, h2, h3, h4⟩ := hs
      have hr' := fun r e => (hr r e).2
      exact ⟨g, h1, h2, Nat.lt_of_lt_of_le h3 hg.size, fun j u hj => cell_kept (h4 j u hj) hg hr'⟩) ?assign ?body ?done ?stop
  case assign =>
    intro l k x W K hx hI hK
    obtain ⟨⟨i1, iz, i2⟩, v, ⟨i3, i4⟩, i5⟩ := hI
    subst hT
    unfold encR
    simp
    gi_wp2
    have hAl := fun o => (Below.refl W.heap.size W).alloc (Nat.le_refl _) o
    refine hK _ _ (kf_alloc (KeepsFrom.refl _ _)) (Seq.Kept.of ((Below.refl _ _).alloc (by omega) _) (fun b hb => (hAl _).block b (by simp at hb; omega)))
      ⟨⟨i1, by simp; omega, ((hAl _).cell (p := ⟨w.heap.size + 1, 0, none⟩) (by simp; omega)).trans i2⟩, v, ⟨((hAl _).cell (p := ⟨w.heap.size + 1 + 1, 0, none⟩) (by simp; omega)).trans i3, ((hAl _).frozen (p := ⟨w.heap.size + 1 + 1, 0, none⟩) (by simp; omega)).trans i4⟩, i5.alloc _⟩
      ⟨W.heap.size, rfl, iz, by simp, new4 W x _⟩
  case body =>
    rintro l k x a' W hl ⟨r, hr⟩ hx ⟨⟨hkm, hz, c1⟩, v, ⟨c2, f2⟩, hO⟩ ⟨g, rfl, hg1, hg2, hgc⟩
    obtain ⟨A, cap, rfl, h1, h2, _, _⟩ := hO.read
    have hs := Lib.hid (KdX.flat_snoc (enc := cR) hx)
    have hOO := Lib.hid hO
    have hWs := hO.hi
    have hhi : w.heap.size + 1 < W.heap.size := by omega
    have hbx : (W.cell? ⟨w.heap.size + 1 + 1, 0, none⟩).isSome = true := by rw [c2]; rfl
    have g0 := hgc 0 _ rfl
    have g1 := hgc 1 _ rfl
    have g2 := hgc 2 _ rfl
    have g3 := hgc 3 _ rfl
    clear hx hgc
    subst hT
    simp
    by_cases hlt : k < m
    · gi_wp2_with (gi_at_builtin; refine Row.app_in rfl _ _ rfl Try.underlying28 info_row rfl (by decide) (by decide) rfl (hO.alloc _) _ (cR x) rfl (newR W x _) rfl (oneR x) (by omega) ?_; intro v' w3 hO3 hg3; obtain ⟨p1, p2, p3, p4, p5, p6, p7, p8⟩ := Row.pushed (Bk := W0.heap.size) (n₀ := w.heap.size) hO (by omega) (by omega) (Nat.le_refl _) (by omega) hg3 hO3 hbx f2; have c3 := p7.trans c2; have f3 := p8.trans f2; clear p7 p8; obtain ⟨A', cap', rfl, _, _, _, _⟩ := hO3.read)
      have c1' := (World.cell?_of_block (w := W) (a := ⟨w.heap.size + 1, 0, none⟩) (p3 (w.heap.size + 1) (by omega) (by omega))).trans c1
      exact ⟨p1, Seq.Kept.of p2 (fun b hb => p3 _ (by simp at hb; omega) (by simp at hb; omega)), ⟨by omega, Nat.le_trans hz p1.size, c1'⟩, _, ⟨p5, p6⟩, by rw [hs.out]; exact p4⟩
    · obtain rfl : k = m := by omega
      gi_wp2
      exact ⟨KeepsFrom.refl _ _, ⟨rfl, rfl⟩, _, c2, hOO.out⟩
  case done =>
    rintro D W hD ⟨⟨hkm, hz, c1⟩, v, ⟨c2, f2⟩, hO⟩ hK
    have hO2 := (hO.put (.deferred none) (by omega) hK rfl).lower (B' := w.heap.size) (Nat.le_refl _) (by omega)
    obtain ⟨A, cap, rfl, _, _, _, _⟩ := hO.read
    subst hT
    gi_wp2
    refine ⟨by simp, .inl ⟨_, _, rfl, run_takeDeferred hK, ?_⟩⟩
    exact ⟨.slice A xs.length cap, by simp [results, Try.f16, go_sem], _, xs.length, rfl, by omega, by rw [List.take_of_length_le hkm]; rwa [List.take_length] at hO2⟩
  case stop =>
    rintro D c k W hD hk ⟨⟨rfl, rfl⟩, v, c2, hO⟩ hK
    have hO2 := (hO.put (.deferred none) (by omega) hK rfl).lower (B' := w.heap.size) (Nat.le_refl _) (by omega)
    obtain ⟨A, cap, rfl, _, _, _, _⟩ := hO.read
    subst hT
    gi_wp2
    refine ⟨by simp, .inl ⟨_, _, rfl, run_takeDeferred hK, ?_⟩⟩
    exact ⟨.slice A m cap, by simp [results, Try.f16, go_sem], _, m, rfl, by omega, hO2⟩
end Go.Proofs.Ytjdpmaachehpnaa.Strip
namespace Go.Proofs.Ytjdpmaachehpnaa.PE
open Go Go.RowKit Go.Shelf Range Go.Proofs.YtjdpmaachehpnaaW.PrintWords
set_option linter.unusedVariables false
def pointillistlaw15_told.f (px py qx qy h m : Int) : Option (List S34) :=
  if ((-17179869184 ≤ px ∧ px ≤ 17179869184) ∧ (-17179869184 ≤ py ∧ py ≤ 17179869184) ∧ (-17179869184 ≤ qx ∧ qx ≤ 17179869184) ∧ (-17179869184 ≤ qy ∧ qy ≤ 17179869184)) ∧ py ≠ qy ∧ (0 ≤ h ∧ h ≤ 100000) ∧ 0 ≤ m ∧ m ≤ 1000 then some ((Strip.strips px py qx qy h).take m.toNat) else none
theorem told_f {px py qx qy h m : Int} (hd : Strip.Dom px py qx qy h) (m0 : 0 ≤ m) (m1 : m ≤ 1000) : pointillistlaw15_told.f px py qx qy h m = some ((Strip.strips px py qx qy h).take m.toNat) :=
  if_pos ⟨⟨hd.ipx, hd.ipy, hd.iqx, hd.iqy⟩, hd.ne, ⟨hd.h0, hd.h1⟩, m0, m1⟩
theorem pointillistlaw15_told.calls (a0_0 a0_1 a0_2 a0_3 a1 a2 : Int) (r : List S34) (w : World) (h : pointillistlaw15_told.f a0_0 a0_1 a0_2 a0_3 a1 a2 = some r) :
    Calls Try.prog 16 #[.agg #[.int .i64 a0_0, .int .i64 a0_1, .int .i64 a0_2, .int .i64 a0_3], .int .i64 a1, .int .i64 a2] w fun e w' => ∃ v0_ : Value, e = .returned (v0_) ∧ Kd.R k34 34 w' w.heap.size (fun _ => True) v0_ r ∧ Below w.heap.size w w' := by
  unfold pointillistlaw15_told.f at h
  split at h
  · rename_i hc
    obtain ⟨⟨⟨p1, p2⟩, ⟨p3, p4⟩, ⟨p5, p6⟩, p7, p8⟩, p9, ⟨p10, p11⟩, p12, p13⟩ := hc
    cases h
    obtain ⟨m, rfl⟩ : ∃ m : Nat, a2 = (m : Int) := ⟨a2.toNat, by omega⟩
    refine (Strip.told_calls a0_0 a0_1 a0_2 a0_3 a1 ⟨⟨p1, p2⟩, ⟨p3, p4⟩, ⟨p5, p6⟩, ⟨p7, p8⟩, p9, p10, p11⟩ m (by omega) w).mono ?_
    rintro e w' ⟨v, k, rfl, hk, hO⟩
    exact ⟨v, rfl, KdX.of_own (d := k34) (enc := Strip.cR) (fun w base ok x => k34_mkM w base ok x) (fun _ => rfl) hO rfl (by rw [List.length_take, hk, Int.toNat_natCast]), hO.bel⟩
  · cases h
end Go.Proofs.Ytjdpmaachehpnaa.PE
