/- The told pieces (law16's cuts), walked: the first ones of a strip, as many as are asked for. For all strips and widths that may be asked about. -/
import Derived.Test.YtjdpmaachehpnaaCellC
import Derived.Test.YtjdpmaachehpnaaRowN
import Derived.Test.YtjdpmaachehpnaaKd
namespace Go.Proofs.Ytjdpmaachehpnaa.Cell
open Go Go.RowKit Go.Shelf Range Go.Proofs.YtjdpmaachehpnaaW.PrintWords Go.Proofs.Ytjdpmaachehpnaa.PE
set_option maxRecDepth 100000
set_option linter.unusedVariables false
set_option linter.unusedSimpArgs false
attribute [local go_sem] Oper.semAt_some
namespace Cuts

def cR (x : S32) : List Value := [.int .i64 x.f0, .int .i64 x.f1, .int .i64 x.f2, .int .i64 x.f3]
theorem info_row : (Try.prog.info? 32).map (fun i => (i.zero, i.size, i.bytes)) = some (some (.agg #[.int .i64 0, .int .i64 0, .int .i64 0, .int .i64 0]), 4, 32) := by kernel_rfl
theorem newR (w : World) (x : S32) (t : TypeId) : ∀ j u, (cR x)[j]? = some u → (w.alloc (.cells #[.int .i64 x.f0, .int .i64 x.f1, .int .i64 x.f2, .int .i64 x.f3] t)).cell? ⟨w.heap.size, j, none⟩ = some u := by
  intro j u hj
  match j, hj with
  | 0, hj => simp [cR] at hj ⊢; exact hj
  | 1, hj => simp [cR] at hj ⊢; exact hj
  | 2, hj => simp [cR] at hj ⊢; exact hj
  | 3, hj => simp [cR] at hj ⊢; exact hj
theorem newE (w : World) (x : S32) (t : TypeId) : ∀ j u, ([.int .i64 x.f0, .int .i64 x.f1, .int .i64 x.f2, .int .i64 x.f3] : List Value)[j]? = some u → (w.alloc (.cells #[.int .i64 x.f0, .int .i64 x.f1, .int .i64 x.f2, .int .i64 x.f3] t)).cell? ⟨w.heap.size, j, none⟩ = some u := by
  intro j u hj
  match j, hj with
  | 0, hj => simp at hj ⊢; exact hj
  | 1, hj => simp at hj ⊢; exact hj
  | 2, hj => simp at hj ⊢; exact hj
  | 3, hj => simp at hj ⊢; exact hj
theorem oneR (x : S32) : ∀ u ∈ cR x, u.oneCell' = true := by
  intro u hu; simp [cR] at hu; rcases hu with rfl | rfl | rfl | rfl <;> rfl

set_option maxHeartbeats 8000000 in
theorem told_calls (X0 Y0 X1 Y1 v : Int) (hd : Dom X0 Y0 X1 Y1 v) (m : Nat) (hm : m ≤ 1000) (hlen : (cuts X0 Y0 X1 Y1 v).length ≤ 1000000) (w : World) : Calls Try.prog 25 #[.agg #[.int .i64 X0, .int .i64 Y0, .int .i64 X1, .int .i64 Y1], .int .i64 v, .int .i64 (m : Int)] w fun e w' => ∃ u k, e = .returned u ∧ k = min m (cuts X0 Y0 X1 Y1 v).length ∧ Row.OwnR 32 4 w.heap.size w w' u k (((cuts X0 Y0 X1 Y1 v).take m).flatMap cR) := by
  have AL := Lib.hid (fun w => cuts_calls X0 Y0 X1 Y1 v w)
  have SG := Lib.hid (fun n₀ B1 B2 => cuts_gives n₀ B1 B2 X0 Y0 X1 Y1 v hd)
  have NF := fun c => neq_func_nil (P := Try.prog) Try.underlying70 (.func 51) #[] c
  clear hd
  generalize cuts X0 Y0 X1 Y1 v = xs at *
  refine Seq.calls_of (n := 0) (callsIn_of_wp_marks Try.func25 rfl trivial ?_ rfl)
  simp only [Try.ntmps25, List.size_toArray, List.length_cons, List.length_nil, Nat.reduceAdd, Nat.reduceSub, Array.replicate_succ, Array.replicate_zero, List.push_toArray, List.append_toArray, List.nil_append, List.cons_append]
  gi_wp2_with (gi_at_call 35; refine (Seq.of_calls (AL.out _)).mono ?_; rintro e w2 ⟨rfl, rfl⟩)
  obtain ⟨W0, hW0⟩ : ∃ W0, ((((w.alloc (.cells #[.int .i64 X0, .int .i64 Y0, .int .i64 X1, .int .i64 Y1] 32)).alloc (.cells #[.int .i64 (m : Int)] 3)).alloc (.cells #[.slice none 0 0] 48)).alloc (.cells #[.int .i64 X0, .int .i64 Y0, .int .i64 X1, .int .i64 Y1] 32)).alloc (.cells #[.int .i64 v] 3) = W0 := ⟨_, rfl⟩
  have HB : Below w.heap.size w W0 := by rw [← hW0]; (repeat' (first | (with_reducible exact Below.refl _ _) | (with_reducible refine Below.drew ?_) | (with_reducible refine below_drewN ?_ _) | ((with_reducible refine Below.setCell ?_ ?side_ _); case side_ => (first | (with_reducible exact Nat.le_refl _) | (with_reducible assumption) | omega | (simp; done) | (simp; omega))) | ((with_reducible refine Below.alloc ?_ ?side_ _); case side_ => (first | (with_reducible exact Nat.le_refl _) | (with_reducible assumption) | omega | (simp; done) | (simp; omega)))))
  have hsz : W0.heap.size = w.heap.size + 5 := by rw [← hW0]; simp
  have k1 : W0.cell? ⟨w.heap.size + 1, 0, none⟩ = some (.int .i64 (m : Int)) := by subst hW0; go_simp
  have k2 : W0.cell? ⟨w.heap.size + 1 + 1, 0, none⟩ = some (.slice none 0 0) := by subst hW0; go_simp
  have k3 : W0.frozen? ⟨w.heap.size + 1 + 1, 0, none⟩ = false := by subst hW0; go_simp
  have q0 : Four W0 (w.heap.size + 3) X0 Y0 X1 Y1 := by subst hW0; exact ⟨by go_simp, by go_simp, by go_simp, by go_simp⟩
  have q4 : W0.cell? ⟨w.heap.size + 4, 0, none⟩ = some (.int .i64 v) := by subst hW0; go_simp
  rw [hW0]
  clear hW0
  refine KdX.with_frame fun T hT => ?_
  refine SeqN.range_ax (N := 6) (n₀ := w.heap.size) (by rw [hT]; rfl) (enters_of Try.func51 (by kernel_rfl) rfl) (SG.out w.heap.size (w.heap.size + 3) (w.heap.size + 4) W0 (by omega) (by omega) (by omega) q0 q4) (by omega) (fun b hb => by simp at hb; omega) (Below.refl _ _) (fun _ => rfl)
    (fun k V => (k ≤ m ∧ W0.heap.size ≤ V.heap.size ∧ V.cell? ⟨w.heap.size + 1, 0, none⟩ = some (.int .i64 (m : Int))) ∧ ∃ u, (V.cell? ⟨w.heap.size + 1 + 1, 0, none⟩ = some u ∧ V.frozen? ⟨w.heap.size + 1 + 1, 0, none⟩ = false) ∧ Row.Yet 32 4 (W0.heap.size + 8) w V u k ((xs.take k).flatMap cR))
    (fun c k V => (c = .exit 0 ∧ k = m + 1) ∧ W0.heap.size ≤ V.heap.size ∧ ∃ u, V.cell? ⟨w.heap.size + 1 + 1, 0, none⟩ = some u ∧ Row.Yet 32 4 (W0.heap.size + 8) w V u m ((xs.take m).flatMap cR))
    (fun k A B hs hA hw => by
      obtain ⟨⟨h1, h0, h2⟩, u, ⟨h3, h4⟩, h5⟩ := hs
      exact ⟨⟨h1, Nat.le_trans h0 hw.size, (hw.cell (p := ⟨w.heap.size + 1, 0, none⟩) (by simp; omega) (.inl (by simp; omega))).trans h2⟩, u, ⟨(hw.cell (p := ⟨w.heap.size + 1 + 1, 0, none⟩) (by simp; omega) (.inl (by simp; omega))).trans h3, (hw.frozen (p := ⟨w.heap.size + 1 + 1, 0, none⟩) (by simp; omega) (.inl (by simp; omega))).trans h4⟩, h5.win hw (by omega) (Nat.le_refl _)⟩)
    (fun c k A B hs hA hw => by
      obtain ⟨h1, h0, u, h3, h5⟩ := hs
      exact ⟨h1, Nat.le_trans h0 hw.size, u, (hw.cell (p := ⟨w.heap.size + 1 + 1, 0, none⟩) (by simp; omega) (.inl (by simp; omega))).trans h3, h5.win hw (by omega) (Nat.le_refl _)⟩)
    ⟨⟨Nat.zero_le _, Nat.le_refl _, k1⟩, _, ⟨k2, k3⟩, .inl ⟨rfl, rfl, rfl, HB⟩⟩
    (fun x a' W => ∃ g, a' = { tmps := (T.setIfInBounds 16 (.agg #[.int .i64 x.f0, .int .i64 x.f1, .int .i64 x.f2, .int .i64 x.f3])).setIfInBounds 9 (.pointer (some ⟨g, 0, none⟩)), defers := [] } ∧ W0.heap.size ≤ g ∧ g < W.heap.size ∧ ∀ j u, ([.int .i64 x.f0, .int .i64 x.f1, .int .i64 x.f2, .int .i64 x.f3] : List Value)[j]? = some u → W.cell? ⟨g, j, none⟩ = some u)
    (fun x a' _ A B row hs hg hr => by
      obtain ⟨g, h1, h2, h3, h4⟩ := hs
      have hr' := fun r e => (hr r e).2
      exact ⟨g, h1, h2, Nat.lt_of_lt_of_le h3 hg.size, fun j u hj => cell_kept (h4 j u hj) hg hr'⟩) ?assign ?body ?done ?stop
  case assign =>
    intro l k x W K hx hz0 hI hK
    obtain ⟨⟨i1, iz, i2⟩, u, ⟨i3, i4⟩, i5⟩ := hI
    subst hT
    unfold encP
    simp
    gi_wp2
    have hAl := fun o => (Below.refl W.heap.size W).alloc (Nat.le_refl _) o
    refine hK _ _ (SeqN.KeptN.alloc _ (by omega) (fun b hb => by simp at hb; omega))
      ⟨⟨i1, by simp; omega, ((hAl _).cell (p := ⟨w.heap.size + 1, 0, none⟩) (by simp; omega)).trans i2⟩, u, ⟨((hAl _).cell (p := ⟨w.heap.size + 1 + 1, 0, none⟩) (by simp; omega)).trans i3, ((hAl _).frozen (p := ⟨w.heap.size + 1 + 1, 0, none⟩) (by simp; omega)).trans i4⟩, i5.alloc _⟩
      ⟨W.heap.size, rfl, iz, by simp, newE W x _⟩
  case body =>
    rintro l k x a' W hl ⟨r, hr⟩ hx hz0 ⟨⟨hkm, hz, c1⟩, u, ⟨c2, f2⟩, hO⟩ ⟨g, rfl, hg1, hg2, hgc⟩
    subst hl
    have hYO := Lib.hid hO
    have hO := hO.now (by omega) (by omega)
    obtain ⟨A, cap, rfl, h1, h2, _, _⟩ := hO.read
    have hs := Lib.hid (KdX.flat_snoc (enc := cR) hx)
    have hWs := hO.hi
    have hhi : w.heap.size + 1 < W.heap.size := by omega
    have hbx : (W.cell? ⟨w.heap.size + 1 + 1, 0, none⟩).isSome = true := by rw [c2]; rfl
    have g0 := hgc 0 _ rfl
    have g1 := hgc 1 _ rfl
    have g2 := hgc 2 _ rfl
    have g3 := hgc 3 _ rfl
    clear hx hgc
    subst hT
    simp
    by_cases hlt : k < m
    · gi_wp2_with (gi_at_builtin; refine Row.app_in rfl _ _ rfl Try.underlying48 info_row rfl (by decide) (by decide) rfl (hO.alloc _) _ (cR x) rfl (newR W x _) rfl (oneR x) (by omega) ?_; intro v' w3 hO3 hg3; obtain ⟨p1, p2, p3, p4, p5, p6, p7, p8⟩ := Row.pushed (Bk := W0.heap.size) (n₀ := w.heap.size) hO (by omega) (by omega) (Nat.le_refl _) (by omega) hg3 hO3 hbx f2; have c3 := p7.trans c2; have f3 := p8.trans f2; clear p7 p8; obtain ⟨A', cap', rfl, _, _, _, _⟩ := hO3.read)
      have c1' := (World.cell?_of_block (w := W) (a := ⟨w.heap.size + 1, 0, none⟩) (p3 (w.heap.size + 1) (by omega) (by omega))).trans c1
      exact ⟨⟨p2, fun b h1 h2 h3 => p3 b (by omega) (by omega), fun b hb => p3 _ (by simp at hb; omega) (by simp at hb; omega)⟩, ⟨by omega, Nat.le_trans hz p1.size, c1'⟩, _, ⟨p5, p6⟩, .inr (by rw [hs.out]; exact p4)⟩
    · obtain rfl : k = m := by omega
      gi_wp2
      exact ⟨SeqN.KeptN.refl, ⟨rfl, rfl⟩, hz, _, c2, hYO.out⟩
  case done =>
    rintro W hz0 ⟨⟨hkm, hz, c1⟩, u, ⟨c2, f2⟩, hO⟩ hK
    have hO2 := (hO.low (by omega)).put (.deferred none) (by omega) hK rfl
    obtain ⟨A, cap, rfl, _, _, _, _⟩ := (hO.low (by omega)).read
    subst hT
    gi_wp2
    refine ⟨by simp, .inl ⟨_, _, rfl, run_takeDeferred (by first | exact hK | (rw [← hsz]; exact hK)), ?_⟩⟩
    exact ⟨.slice A xs.length cap, by simp [results, Try.f25, go_sem], _, xs.length, rfl, by omega, by rw [List.take_of_length_le hkm]; rw [List.take_length] at hO2; first | exact hO2 | (rw [← hsz]; exact hO2)⟩
  case stop =>
    rintro c k W hk hz0 ⟨⟨rfl, rfl⟩, hz, u, c2, hO⟩ hK
    have hO2 := (hO.low (by omega)).put (.deferred none) (by omega) hK rfl
    obtain ⟨A, cap, rfl, _, _, _, _⟩ := (hO.low (by omega)).read
    subst hT
    gi_wp2
    refine ⟨by simp, .inl ⟨_, _, rfl, run_takeDeferred (by first | exact hK | (rw [← hsz]; exact hK)), ?_⟩⟩
    exact ⟨.slice A m cap, by simp [results, Try.f25, go_sem], _, m, rfl, by omega, by first | exact hO2 | (rw [← hsz]; exact hO2)⟩
end Cuts
end Go.Proofs.Ytjdpmaachehpnaa.Cell
namespace Go.Proofs.Ytjdpmaachehpnaa.PE
open Go Go.RowKit Go.Shelf Range Go.Proofs.YtjdpmaachehpnaaW.PrintWords
set_option linter.unusedVariables false
def pointillistlaw16_cuts.f (X0 Y0 X1 Y1 v m : Int) : Option (List S32) :=
  if ((-17179869184 ≤ X0 ∧ X0 ≤ 17179869184) ∧ (-17179869184 ≤ X1 ∧ X1 ≤ 17179869184) ∧ (0 ≤ Y0 ∧ Y0 ≤ 65536) ∧ (0 ≤ Y1 ∧ Y1 ≤ 65536)) ∧ (1 ≤ v ∧ v ≤ 100000) ∧ 0 ≤ m ∧ m ≤ 1000 then some ((Cell.cuts X0 Y0 X1 Y1 v).take m.toNat) else none
theorem cuts_f {X0 Y0 X1 Y1 v m : Int} (hd : Cell.Dom X0 Y0 X1 Y1 v) (m0 : 0 ≤ m) (m1 : m ≤ 1000) : pointillistlaw16_cuts.f X0 Y0 X1 Y1 v m = some ((Cell.cuts X0 Y0 X1 Y1 v).take m.toNat) :=
  if_pos ⟨⟨hd.x0, hd.x1, hd.y0, hd.y1⟩, ⟨hd.w0, hd.w1⟩, m0, m1⟩
theorem pointillistlaw16_cuts.calls (a0_0 a0_1 a0_2 a0_3 a1 a2 : Int) (r : List S32) (w : World) (h : pointillistlaw16_cuts.f a0_0 a0_1 a0_2 a0_3 a1 a2 = some r) :
    Calls Try.prog 25 #[.agg #[.int .i64 a0_0, .int .i64 a0_1, .int .i64 a0_2, .int .i64 a0_3], .int .i64 a1, .int .i64 a2] w fun e w' => ∃ v0_ : Value, e = .returned (v0_) ∧ Kd.R k32 32 w' w.heap.size (fun _ => True) v0_ r ∧ Below w.heap.size w w' := by
  unfold pointillistlaw16_cuts.f at h
  split at h
  · rename_i hc
    obtain ⟨⟨p1, p2, p3, p4⟩, ⟨p5, p6⟩, p7, p8⟩ := hc
    cases h
    obtain ⟨m, rfl⟩ : ∃ m : Nat, a2 = (m : Int) := ⟨a2.toNat, by omega⟩
    have D : Cell.Dom a0_0 a0_1 a0_2 a0_3 a1 := ⟨p1, p2, p3, p4, p5, p6⟩
    refine (Cell.Cuts.told_calls a0_0 a0_1 a0_2 a0_3 a1 D m (by omega) (Cell.cuts_short D) w).mono ?_
    rintro e w' ⟨v, k, rfl, hk, hO⟩
    exact ⟨v, rfl, KdX.of_own (d := k32) (enc := Cell.Cuts.cR) (fun w base ok x => k32_mkM w base ok x) (fun _ => rfl) hO rfl (by rw [List.length_take, hk, Int.toNat_natCast]), hO.bel⟩
  · cases h
end Go.Proofs.Ytjdpmaachehpnaa.PE
