/- The law BufferAt: what At answers at a column and a row is what Row yields there, and nought elsewhere. For all inputs. -/
import Derived.Test.YtejcjonlnijbkaaBf3
import Derived.Deep.RegionHeld3
import Derived.Test.YtejcjonlnijbkaaBf2
import Derived.Test.YtejcjonlnijbkaaSr
import Derived.Test.YtejcjonlnijbkaaWm1
import Derived.Test.YtejcjonlnijbkaaRows
import Derived.ProofKit
import Derived.OpenShut
import Derived.ShutString
import Derived.ChangeOld
import Derived.SizedLaws
namespace Go.Proofs.Ytejcjonlnijbkaa
open Go Go.RowKit
set_option linter.unusedVariables false
set_option linter.unusedSimpArgs false
namespace Buf
open Go Go.RowKit Go.Shelf Range Go.Proofs.Ytejcjonlnijbkaa.PE Go.Proofs.YtejcjonlnijbkaaW.PrintWords Go.Proofs.YtejcjonlnijbkaaW.PrintLast Go.Proofs.YtejcjonlnijbkaaW.PrintMore Go.Proofs.Ytejcjonlnijbkaa.Num
attribute [local go_sem] Oper.semAt_some
/-- A normal end whose frame holds two new blocks. -/
def PostTwo (T : Nat → Nat → Act) (S : Nat → Nat → World → Prop) : Exit → Act → World → Prop := fun ex ac u => match ex with
  | .normal => ∃ p q, ac = T p q ∧ S p q u
  | _ => False
theorem cut_two {F : Fence} {n : Nat} {P : Program} {c : Code} {Q : Exit → Act → World → Prop} {act : Act} {u : World} (T : Nat → Nat → Act) (S : Nat → Nat → World → Prop) (h : c.wpIn F n P (PostTwo T S) act u) (k : ∀ p q u1, S p q u1 → Q Exit.normal (T p q) u1) : c.wpIn F n P Q act u :=
  Code.wpIn_mono (fun ex ac u1 e => by
    cases ex <;> first | exact (e : False).elim | (obtain ⟨p, q, rfl, e⟩ := (e : ∃ p q, ac = T p q ∧ S p q u1); exact k p q u1 e)) h
set_option maxHeartbeats 16000000 in
set_option maxRecDepth 100000 in
theorem bufferat (s0 s1 x y : Int) (h0 : 0 ≤ s0 ∧ s0 ≤ 255) (h1 : 0 ≤ s1 ∧ s1 ≤ 255) (A : Option Addr) (es : List Eg) (cA : Nat) (hl : es.length ≤ 12) (hI : ∀ e ∈ es, InIE e) (w : World) (hE : ER (fun _ => False) w A es) :
    Calls Try.prog 3 #[.agg #[.int .u8 s0, .int .u8 s1], .slice A es.length cA, .agg #[.int .i64 x, .int .i64 y]] w fun e w' => e = .returned (.bool true) ∧ Below w.heap.size w w' := by
  obtain ⟨W, hW⟩ : ∃ W : Nat, 1 + s0 % 16 = (W : Int) := ⟨(1 + s0 % 16).toNat, by omega⟩
  obtain ⟨H, hH⟩ : ∃ H : Nat, 1 + s1 % 16 = (H : Int) := ⟨(1 + s1 % 16).toNat, by omega⟩
  have hWb : 1 ≤ W ∧ W ≤ 16 := by omega
  have hHb : 1 ≤ H ∧ H ≤ 16 := by omega
  have WK := Lib.hid (fun w => wakes_calls w)
  have OA := Lib.hid (fun w hE => of_calls s0 s1 h0 h1 A es cA (by omega) hI w hE)
  rw [hW, hH] at OA
  simp only [Int.toNat_natCast] at OA
  have HE := Lib.hid hE
  clear hI hE hW hH
  have hlen : ¬ (es.length : Int) > 12 := by omega
  have hlen2 : ¬ 12 < es.length := by omega
  refine Seq.calls_of (n := 0) (callsIn_of_wp_marks Try.func3 rfl trivial ?_ rfl)
  simp only [Try.ntmps3, List.size_toArray, List.length_cons, List.length_nil, Nat.reduceAdd, Nat.reduceSub, Array.replicate_succ, Array.replicate_zero, List.push_toArray, List.append_toArray, List.nil_append, List.cons_append]
  gi_wp2_with (first
    | (gi_at_call 15; refine (Seq.of_calls (WK.out _)).mono ?_; rintro e w1 ⟨rfl, hb1⟩; have z1 : w.heap.size + 2 < w1.heap.size := Nat.lt_of_lt_of_le (by simp) hb1.size; have q0 := (hb1.cell (p := ⟨w.heap.size, 0, none⟩) (by simp; omega)).trans (show _ = some (Value.int .u8 s0) by go_simp); have q1 := (hb1.cell (p := ⟨w.heap.size, 1, none⟩) (by simp; omega)).trans (show _ = some (Value.int .u8 s1) by go_simp); have p0 := (hb1.cell (p := ⟨w.heap.size + 1, 0, none⟩) (by simp)).trans (show _ = some (Value.int .i64 x) by go_simp); have p1 := (hb1.cell (p := ⟨w.heap.size + 1, 1, none⟩) (by simp)).trans (show _ = some (Value.int .i64 y) by go_simp); have n0 := (hb1.cell (p := ⟨w.heap.size + 1 + 1, 0, none⟩) (by simp)).trans (show _ = some (Value.bool false) by go_simp); have f0 := (hb1.frozen (p := ⟨w.heap.size + 1 + 1, 0, none⟩) (by simp)).trans (show _ = false by go_simp); have HB1 : Below w.heap.size w w1 := ((((Below.refl _ w).alloc (Nat.le_refl _) _).alloc (by simp) _).alloc (by simp; omega) _).trans (hb1.mono (by simp; omega)); have hE1 := HE.out.over HB1 (O1 := fun _ => False) (fun i h => h.elim))
    | (gi_at_call 16; refine (Seq.of_calls (OA.out _ hE1)).mono ?_; rintro e w2 ⟨b, m, l, rfl, hb2, hB2, ho2⟩; have r0 := (hb2.cell (p := ⟨w.heap.size + 1, 0, none⟩) (by show w.heap.size + 1 < _; omega)).trans p0; have r1 := (hb2.cell (p := ⟨w.heap.size + 1, 1, none⟩) (by show w.heap.size + 1 < _; omega)).trans p1; have n1 := (hb2.cell (p := ⟨w.heap.size + 1 + 1, 0, none⟩) (by show w.heap.size + 1 + 1 < _; omega)).trans n0; have f1 := (hb2.frozen (p := ⟨w.heap.size + 1 + 1, 0, none⟩) (by show w.heap.size + 1 + 1 < _; omega)).trans f0; have z2 := Nat.lt_of_lt_of_le z1 hb2.size; have HB2 : Below w.heap.size w w2 := HB1.trans (hb2.mono HB1.size)))
  obtain ⟨X, hX⟩ : ∃ X, w2.alloc (.cells #[.pointer (some ⟨b, 0, none⟩)] 26) = X := ⟨_, rfl⟩
  have hbX : Below w2.heap.size w2 X := by rw [← hX]; exact (Below.refl _ _).alloc (Nat.le_refl _) _
  have hXs : X.heap.size = w2.heap.size + 1 := by rw [← hX]; simp
  have x0 : X.drew.cell? ⟨w.heap.size + 1, 0, none⟩ = some (.int .i64 x) := (hbX.cell (p := ⟨w.heap.size + 1, 0, none⟩) (by show w.heap.size + 1 < _; omega)).trans r0
  have x1 : X.drew.cell? ⟨w.heap.size + 1, 1, none⟩ = some (.int .i64 y) := (hbX.cell (p := ⟨w.heap.size + 1, 1, none⟩) (by show w.heap.size + 1 < _; omega)).trans r1
  have xb : X.cell? ⟨w2.heap.size, 0, none⟩ = some (.pointer (some ⟨b, 0, none⟩)) := by subst hX; go_simp
  have hlt1 : w.heap.size + 1 < X.heap.size := by omega
  have hc : ∀ (u : World) (j : Nat), Below X.heap.size X u → u.drew.cell? ⟨w.heap.size + 1, j, none⟩ = X.drew.cell? ⟨w.heap.size + 1, j, none⟩ := fun u j hb => hb.cell (p := ⟨w.heap.size + 1, j, none⟩) hlt1
  have y0 : ∀ o, (X.alloc o).drew.cell? ⟨w.heap.size + 1, 0, none⟩ = some (.int .i64 x) := fun o => (hc _ 0 ((Below.refl _ X).alloc (Nat.le_refl _) _)).trans x0
  have y1 : ∀ o, (X.alloc o).drew.cell? ⟨w.heap.size + 1, 1, none⟩ = some (.int .i64 y) := fun o => (hc _ 1 ((Below.refl _ X).alloc (Nat.le_refl _) _)).trans x1
  have v0 : ∀ o o', ((X.alloc o).alloc o').drew.cell? ⟨w.heap.size + 1, 0, none⟩ = some (.int .i64 x) := fun o o' => (hc _ 0 (((Below.refl _ X).alloc (Nat.le_refl _) _).alloc (by simp) _)).trans x0
  have v1 : ∀ o o', ((X.alloc o).alloc o').drew.cell? ⟨w.heap.size + 1, 1, none⟩ = some (.int .i64 y) := fun o o' => (hc _ 1 (((Below.refl _ X).alloc (Nat.le_refl _) _).alloc (by simp) _)).trans x1
  rw [hX]
  clear hc
  clear hX q0 q1 p0 p1 r0 r1 n0 f0 hE1
  refine KdX.with_frame fun T hT => ?_
  refine cut_two (fun p q => { tmps := (((((T.setIfInBounds 31 (.pointer (some ⟨w.heap.size + 1, 0, none⟩))).setIfInBounds 32 (.int .i64 x)).setIfInBounds 33 (.pointer (some ⟨w.heap.size + 1, 1, none⟩))).setIfInBounds 34 (.int .i64 y)).setIfInBounds 10 (.pointer (some ⟨p, 0, none⟩))).setIfInBounds 11 (.pointer (some ⟨q, 0, none⟩)), defers := [] })
    (fun p q u => p ≠ q ∧ X.heap.size ≤ p ∧ X.heap.size ≤ q ∧ u.heap.size = X.heap.size + 2 ∧ p < u.heap.size ∧ q < u.heap.size ∧ Below X.heap.size X u ∧ u.cell? ⟨p, 0, none⟩ = some (.int .i64 x) ∧ u.cell? ⟨q, 0, none⟩ = some (.int .i64 y)) ?_ ?_
  · subst hT
    gi_region
    all_goals refine ⟨_, _, rfl, ?_⟩
    all_goals dsimp only
    all_goals refine ⟨by omega, by omega, by omega, by simp, by simp; omega, by simp; omega, (((Below.refl _ X).alloc (Nat.le_refl _) _).alloc (by simp) _).drew, by go_simp, by go_simp⟩
  rintro p q U ⟨hpq, hp, hq, hUs, hp', hq', hbU, cp, cq⟩
  have hOwn : ∀ i, Own b m l i → i < w2.heap.size := fun i hi => hB2.lt hi
  have hb2U : Below w2.heap.size w2 U := hbX.trans (hbU.mono hbX.size)
  have BU : Buf U b m W H l (addl W H es nought) (addl W H es nought) := hB2.of (fun i hi => hb2U.block i (hOwn i hi))
  have HBU : Below w.heap.size w U := HB2.trans (hb2U.mono HB2.size)
  have ub : U.cell? ⟨w2.heap.size, 0, none⟩ = some (.pointer (some ⟨b, 0, none⟩)) := (hbU.cell (p := ⟨w2.heap.size, 0, none⟩) (by show w2.heap.size < _; omega)).trans xb
  have un : U.cell? ⟨w.heap.size + 1 + 1, 0, none⟩ = some (.bool false) := (hb2U.cell (p := ⟨w.heap.size + 1 + 1, 0, none⟩) (by show w.heap.size + 1 + 1 < _; omega)).trans n1
  have uf : U.frozen? ⟨w.heap.size + 1 + 1, 0, none⟩ = false := (hb2U.frozen (p := ⟨w.heap.size + 1 + 1, 0, none⟩) (by show w.heap.size + 1 + 1 < _; omega)).trans f1
  have hU1 : w2.heap.size + 2 < U.heap.size := by omega
  clear hUs x0 x1 y0 y1 v0 v1 xb n1 f1
  subst hT
  simp
  by_cases hin : 0 ≤ x ∧ x < W ∧ 0 ≤ y ∧ y < H
  · obtain ⟨g0, g1, g2, g3⟩ := hin
    have RC := Lib.hid (fun w => Row_calls b y w)
    have hUa := fun (o : Obj) {j k : Nat} (hj : j < U.heap.size) => ((Below.refl _ U).alloc (Nat.le_refl _) o).cell (p := ⟨j, k, none⟩) hj
    have cpa : ∀ o, (U.alloc o).cell? ⟨p, 0, none⟩ = some (.int .i64 x) := fun o => (hUa o hp').trans cp
    have cqa : ∀ o, (U.alloc o).cell? ⟨q, 0, none⟩ = some (.int .i64 y) := fun o => (hUa o hq').trans cq
    have cba : ∀ o, (U.alloc o).cell? ⟨w2.heap.size, 0, none⟩ = some (.pointer (some ⟨b, 0, none⟩)) := fun o => (hUa o (by omega)).trans ub
    clear hUa
    have NF := fun c => neq_func_nil (P := Try.prog) Try.underlying30 (.func 40) #[] c
    gi_wp2_with (gi_at_call 17; refine (Seq.of_calls (RC.out _)).mono ?_; rintro e w4 ⟨rfl, rfl⟩)
    obtain ⟨W0, hW0⟩ : ∃ W0, (((U.alloc (.cells #[.int .i64 0] 3)).alloc (.cells #[.pointer (some ⟨b, 0, none⟩)] 26)).alloc (.cells #[.int .i64 y] 3)) = W0 := ⟨_, rfl⟩
    have hbW : Below U.heap.size U W0 := by rw [← hW0]; exact (((Below.refl _ U).alloc (Nat.le_refl _) _).alloc (by simp) _).alloc (by simp; omega) _
    have hsW : W0.heap.size = U.heap.size + 3 := by rw [← hW0]; simp
    have k0 : W0.cell? ⟨U.heap.size, 0, none⟩ = some (.int .i64 0) := by subst hW0; go_simp
    have kf : W0.frozen? ⟨U.heap.size, 0, none⟩ = false := by subst hW0; go_simp
    have k3 : W0.cell? ⟨U.heap.size + 1, 0, none⟩ = some (.pointer (some ⟨b, 0, none⟩)) := by subst hW0; go_simp
    have k4 : W0.cell? ⟨U.heap.size + 1 + 1, 0, none⟩ = some (.int .i64 y) := by subst hW0; go_simp
    have hUb : w2.heap.size ≤ U.heap.size := hb2U.size
    have HB0 : Buf W0 b m W H l (addl W H es nought) (addl W H es nought) := BU.of (fun i hi => hbW.block i (Nat.lt_of_lt_of_le (hOwn i hi) hUb))
    have HBW : Below w.heap.size w W0 := HBU.trans (hbW.mono HBU.size)
    have d1 : W0.cell? ⟨p, 0, none⟩ = some (.int .i64 x) := (hbW.cell (p := ⟨p, 0, none⟩) hp').trans cp
    have d2 : W0.cell? ⟨q, 0, none⟩ = some (.int .i64 y) := (hbW.cell (p := ⟨q, 0, none⟩) hq').trans cq
    have d3 : W0.cell? ⟨w2.heap.size, 0, none⟩ = some (.pointer (some ⟨b, 0, none⟩)) := (hbW.cell (p := ⟨w2.heap.size, 0, none⟩) (by show w2.heap.size < _; omega)).trans ub
    have d4 : W0.cell? ⟨w.heap.size + 1 + 1, 0, none⟩ = some (.bool false) := (hbW.cell (p := ⟨w.heap.size + 1 + 1, 0, none⟩) (by show w.heap.size + 1 + 1 < _; omega)).trans un
    have d5 : W0.frozen? ⟨w.heap.size + 1 + 1, 0, none⟩ = false := (hbW.frozen (p := ⟨w.heap.size + 1 + 1, 0, none⟩) (by show w.heap.size + 1 + 1 < _; omega)).trans uf
    have RG := Lib.hid (row_gives H W b m l (addl W H es nought) w.heap.size (U.heap.size + 1 + 1) (U.heap.size + 1) y (by omega) W0 HB0 (by omega) (by omega) k4 k3)
    have hrw : rowWts W H (addl W H es nought) y = wts W (addl W H es nought y) := if_pos ⟨g2, g3⟩
    rw [hrw] at RG
    rw [hW0]
    clear hW0 cpa cqa cba hrw
    refine KdX.with_frame fun T hT => ?_
    refine SeqN.range_ax (N := 1) (n₀ := w.heap.size) (by rw [hT]; rfl) (enters_of Try.func40 (by kernel_rfl) rfl) RG.out (by have := HBW.size; omega) (fun j hj => by obtain ⟨r, hr, rfl⟩ := List.mem_map.1 hj; have := hOwn r.2 (.inr (.inr ⟨r, hr, rfl⟩)); omega) (Below.refl _ _) (fun _ => rfl)
      (fun k V => (∀ j : Nat, j < k → (j : Int) ≠ x) ∧ W0.heap.size ≤ V.heap.size ∧ Below w.heap.size w V ∧ (∀ j, j < W0.heap.size → j ≠ U.heap.size → V.heap[j]? = W0.heap[j]?) ∧ V.cell? ⟨U.heap.size, 0, none⟩ = some (.int .i64 (k : Nat)) ∧ V.frozen? ⟨U.heap.size, 0, none⟩ = false)
      (fun c k V => c = .ret ∧ W0.heap.size ≤ V.heap.size ∧ Below w.heap.size w V ∧ V.cell? ⟨w.heap.size + 1 + 1, 0, none⟩ = some (.bool true))
      (fun k A B hs hA hw => by
        obtain ⟨h1, h2, h3, h4, h5, h6⟩ := hs
        exact ⟨h1, Nat.le_trans h2 hw.size, h3.trans (hw.below (by have := HBW.size; omega) (by omega)), fun j hj hn => (hw.block j (by omega) (.inl (by omega))).trans (h4 j hj hn), (hw.cell (p := ⟨U.heap.size, 0, none⟩) (by show U.heap.size < _; omega) (.inl (by show U.heap.size < _; omega))).trans h5, (hw.frozen (p := ⟨U.heap.size, 0, none⟩) (by show U.heap.size < _; omega) (.inl (by show U.heap.size < _; omega))).trans h6⟩)
      (fun c k A B hs hA hw => by
        obtain ⟨h1, h2, h3, h4⟩ := hs
        exact ⟨h1, Nat.le_trans h2 hw.size, h3.trans (hw.below (by have := HBW.size; omega) (by omega)), (hw.cell (p := ⟨w.heap.size + 1 + 1, 0, none⟩) (by show w.heap.size + 1 + 1 < _; omega) (.inl (by show w.heap.size + 1 + 1 < _; omega))).trans h4⟩)
      ⟨fun j hj => by omega, Nat.le_refl _, HBW, fun _ _ _ => rfl, k0, kf⟩
      (fun r a' V => a' = { tmps := (((T.setIfInBounds 77 (.int .i64 r.1)).setIfInBounds 78 (.int .i64 r.2)).setIfInBounds 15 (.int .i64 r.1)).setIfInBounds 16 (.int .i64 r.2), defers := [] })
      (fun p a' _ A B row hs hg hr => hs) ?assign ?body ?done ?stop
    case assign =>
      intro l0 k r V K hx hz0 hI hK
      subst hT
      unfold encW
      simp
      gi_wp2
      exact hK _ _ SeqN.KeptN.refl hI rfl
    case body =>
      rintro l0 k r a' V hl ⟨rr, hr⟩ hx hz0 ⟨i1, i2, i3, i4, i5, i6⟩ rfl
      have hkW : k < W := by have := (List.getElem?_eq_some_iff.1 hx).1; rwa [wts_len] at this
      have hpx : r = ((k : Int), wt k (addl W H es nought y)) := by rw [wts_at W _ hkW] at hx; exact (Option.some.inj hx).symm
      subst hpx
      subst hT
      simp
      have e1 : V.cell? ⟨p, 0, none⟩ = some (.int .i64 x) := (World.cell?_of_block (a := ⟨p, 0, none⟩) (i4 p (by omega) (by omega))).trans d1
      have e2 : V.cell? ⟨q, 0, none⟩ = some (.int .i64 y) := (World.cell?_of_block (a := ⟨q, 0, none⟩) (i4 q (by omega) (by omega))).trans d2
      have e3 : V.cell? ⟨w2.heap.size, 0, none⟩ = some (.pointer (some ⟨b, 0, none⟩)) := (World.cell?_of_block (a := ⟨w2.heap.size, 0, none⟩) (i4 w2.heap.size (by omega) (by omega))).trans d3
      have e4 : V.cell? ⟨w.heap.size + 1 + 1, 0, none⟩ = some (.bool false) := (World.cell?_of_block (a := ⟨w.heap.size + 1 + 1, 0, none⟩) (i4 (w.heap.size + 1 + 1) (by omega) (by omega))).trans d4
      have e5 : V.frozen? ⟨w.heap.size + 1 + 1, 0, none⟩ = false := (World.frozen?_of_block (a := ⟨w.heap.size + 1 + 1, 0, none⟩) (i4 (w.heap.size + 1 + 1) (by omega) (by omega))).trans d5
      have BV : Buf V b m W H l (addl W H es nought) (addl W H es nought) := HB0.of (fun i hi => i4 i (by have := hOwn i hi; omega) (by have := hOwn i hi; omega))
      have hVz : w.heap.size + 2 < V.heap.size := by omega
      by_cases hkx : (k : Int) = x
      · have hat : atV W H (addl W H es nought) x y = wt k (addl W H es nought y) := by
          unfold atV; rw [if_pos ⟨by omega, by omega, g2, g3⟩, ← hkx, Int.toNat_natCast]
        have AT := Lib.hid (At_calls H W b m l (addl W H es nought) (by omega) x y V BV)
        rw [hat] at AT
        clear hat
        subst hkx
        gi_wp2_with (first
          | (gi_at_call 18; refine (Seq.of_calls AT.out).mono ?_; rintro e w5 ⟨rfl, hb5⟩; have e6 := (hb5.cell (p := ⟨w.heap.size + 1 + 1, 0, none⟩) (by show w.heap.size + 1 + 1 < _; omega)).trans e4; have e7 := (hb5.frozen (p := ⟨w.heap.size + 1 + 1, 0, none⟩) (by show w.heap.size + 1 + 1 < _; omega)).trans e5))
        refine ⟨SeqN.KeptN.of ((hb5.mono (by omega)).setCell (by show w.heap.size ≤ w.heap.size + 1 + 1; omega) _) (fun j hj hor => (Below.heap_setCell _ _ _ _ (fun e => ?_)).trans (hb5.block j hj)) (fun j hj => ?_), rfl, by have := hb5.size; simp; omega, (i3.trans (hb5.mono (by omega))).setCell (by show w.heap.size ≤ w.heap.size + 1 + 1; omega) _, World.cell?_setCell_same' _ _ _ (by rw [e6]; rfl)⟩
        · have e' : j = w.heap.size + 1 + 1 := e
          rcases hor with h | h
          · omega
          · obtain ⟨c, hc, rfl⟩ := List.mem_map.1 h
            have h2 := ho2 c.2 (.inr (.inr ⟨c, hc, rfl⟩)); omega
        · obtain ⟨c, hc, rfl⟩ := List.mem_map.1 hj
          have h2 := hOwn c.2 (.inr (.inr ⟨c, hc, rfl⟩)); omega
      · have hkx2 : ((k : Int) == x) = false := by simpa using hkx
        gi_wp2
        refine ⟨SeqN.KeptN.of ((Below.refl _ _).setCell (by show w.heap.size ≤ U.heap.size; omega) _) (fun j hj hor => Below.heap_setCell _ _ _ _ (fun e => ?_)) (fun j hj => ?_), fun j hj => by by_cases e : j = k; subst e; exact hkx; exact i1 j (by omega), by simp; omega, i3.setCell (by show w.heap.size ≤ U.heap.size; omega) _, fun j hj hn => (Below.heap_setCell _ _ _ _ hn).trans (i4 j hj hn), ?_, by simpa using i6⟩
        · have e' : j = U.heap.size := e
          rcases hor with h | h
          · omega
          · obtain ⟨c, hc, rfl⟩ := List.mem_map.1 h
            have h2 := hOwn c.2 (.inr (.inr ⟨c, hc, rfl⟩)); omega
        · obtain ⟨c, hc, rfl⟩ := List.mem_map.1 hj
          have h2 := hOwn c.2 (.inr (.inr ⟨c, hc, rfl⟩)); omega
        · exact World.cell?_setCell_same' _ _ _ (by rw [i5]; rfl)
    case done =>
      rintro V hz ⟨i1, i2, i3, i4, i5, i6⟩ hK
      exact absurd (show ((x.toNat : Nat) : Int) = x by omega) (i1 x.toNat (by rw [wts_len]; omega))
    case stop =>
      rintro c k V hk hz ⟨rfl, i1, i2, i3⟩ hK
      have hc5 : (V.putObj W0.heap.size (.deferred none)).cell? ⟨w.heap.size + 1 + 1, 0, none⟩ = some (.bool true) :=
        (World.cell?_of_block (a := ⟨w.heap.size + 1 + 1, 0, none⟩) (World.putObj_heap_other (by show w.heap.size + 1 + 1 ≠ W0.heap.size; omega))).trans i3
      subst hT
      gi_wp2
      refine ⟨by simp, .inl ⟨_, _, rfl, run_takeDeferred hK, ?_⟩⟩
      refine ⟨.bool true, ?_, rfl, i2.trans (Seq.below_put (by have := HBW.size; omega) (by omega) _)⟩
      simp [results, Try.f3, go_sem, hc5]
  · have hat : atV W H (addl W H es nought) x y = 0 := by unfold atV; rw [if_neg hin]
    have AT := Lib.hid (fun w hB => At_calls H W b m l (addl W H es nought) (by omega) x y w hB)
    rw [hat] at AT
    clear hat
    by_cases hy : 0 ≤ y ∧ y < H
    · have BUh := Lib.hid BU
      clear BU
      have ny0 : ¬ y < 0 := by omega
      have ny1 : ¬ (H : Int) ≤ y := by omega
      have hx : x < 0 ∨ (¬ x < 0 ∧ (W : Int) ≤ x) := by omega
      clear hin hy
      rcases hx with hx | ⟨hx, hx'⟩
      all_goals
        gi_wp2_with (first
          | (gi_at_call 18; refine (Seq.of_calls (AT.out _ BUh.out)).mono ?_; rintro e w5 ⟨rfl, hb5⟩; have e6 := (hb5.cell (p := ⟨w.heap.size + 1 + 1, 0, none⟩) (by show w.heap.size + 1 + 1 < _; omega)).trans un; have e7 := (hb5.frozen (p := ⟨w.heap.size + 1 + 1, 0, none⟩) (by show w.heap.size + 1 + 1 < _; omega)).trans uf))
      all_goals
        have hc5 : (w5.setCell ⟨w.heap.size + 1 + 1, 0, none⟩ (.bool true)).cell? ⟨w.heap.size + 1 + 1, 0, none⟩ = some (.bool true) := World.cell?_setCell_same' _ _ _ (by rw [e6]; rfl)
        refine ⟨.bool true, ?_, rfl, (HBU.trans (hb5.mono HBU.size)).setCell (by show w.heap.size ≤ w.heap.size + 1 + 1; omega) _⟩
        simp [results, Try.f3, go_sem, hc5]
    · have hy2 : y < 0 ∨ (¬ y < 0 ∧ (H : Int) ≤ y) := by omega
      have RC := Lib.hid (fun w => Row_calls b y w)
      have NF := fun c => neq_func_nil (P := Try.prog) Try.underlying30 (.func 40) #[] c
      have hx : x < 0 ∨ (¬ x < 0 ∧ (W : Int) ≤ x) ∨ (¬ x < 0 ∧ ¬ (W : Int) ≤ x) := by omega
      clear hin
      rcases hy2 with hy2 | ⟨hy2, hy3⟩
      all_goals
        rcases hx with hx | ⟨hx, hx'⟩ | ⟨hx, hx'⟩
      all_goals gi_wp2_with (gi_at_call 17; refine (Seq.of_calls (RC.out _)).mono ?_; rintro e w4 ⟨rfl, rfl⟩)
      all_goals
        obtain ⟨W0, hW0⟩ : ∃ W0, ((U.alloc (.cells #[.pointer (some ⟨b, 0, none⟩)] 26)).alloc (.cells #[.int .i64 y] 3)) = W0 := ⟨_, rfl⟩
        have hbW : Below U.heap.size U W0 := by rw [← hW0]; exact ((Below.refl _ U).alloc (Nat.le_refl _) _).alloc (by simp) _
        have hsW : W0.heap.size = U.heap.size + 2 := by rw [← hW0]; simp
        have k3 : W0.cell? ⟨U.heap.size, 0, none⟩ = some (.pointer (some ⟨b, 0, none⟩)) := by subst hW0; go_simp
        have k4 : W0.cell? ⟨U.heap.size + 1, 0, none⟩ = some (.int .i64 y) := by subst hW0; go_simp
        have HB0 : Buf W0 b m W H l (addl W H es nought) (addl W H es nought) := BU.of (fun i hi => hbW.block i (by have := hOwn i hi; omega))
        have HBW : Below w.heap.size w W0 := HBU.trans (hbW.mono HBU.size)
        have RG := Lib.hid (row_gives H W b m l (addl W H es nought) w.heap.size (U.heap.size + 1) U.heap.size y (by omega) W0 HB0 (by omega) (by omega) k4 k3)
        have hrw : rowWts W H (addl W H es nought) y = [] := if_neg hy
        rw [hrw] at RG
        rw [hW0]
        clear hW0 hrw
        refine KdX.with_frame fun T hT => ?_
        refine SeqN.range_ax (N := 1) (n₀ := w.heap.size) (by rw [hT]; rfl) (enters_of Try.func40 (by kernel_rfl) rfl) RG.out (by have := HBW.size; omega) (fun j hj => by obtain ⟨r, hr, rfl⟩ := List.mem_map.1 hj; have := hOwn r.2 (.inr (.inr ⟨r, hr, rfl⟩)); omega) (Below.refl _ _) (fun _ => rfl)
          (fun k V => W0.heap.size ≤ V.heap.size ∧ Below w.heap.size w V ∧ (∀ j, j < W0.heap.size → V.heap[j]? = W0.heap[j]?))
          (fun c k V => False)
          (fun k A B hs hA hw => by
            obtain ⟨h2, h3, h4⟩ := hs
            exact ⟨Nat.le_trans h2 hw.size, h3.trans (hw.below (by have := HBW.size; omega) (by omega)), fun j hj => (hw.block j (by omega) (.inl (by omega))).trans (h4 j hj)⟩)
          (fun c k A B hs hA hw => hs)
          ⟨Nat.le_refl _, HBW, fun _ _ => rfl⟩
          (fun r a' V => True)
          (fun p a' _ A B row hs hg hr => hs) ?assign ?body ?done ?stop
        case assign => intro l0 k r V K hx; simp at hx
        case body => intro l0 k r a' V hl hr hx; simp at hx
        case stop => rintro c k V hk hz h hK; exact h.elim
        case done =>
          rintro V hz ⟨i2, i3, i4⟩ hK
          have BV : Buf V b m W H l (addl W H es nought) (addl W H es nought) := HB0.of (fun i hi => i4 i (by have := hOwn i hi; omega))
          have hgo : ∀ {j k : Nat}, j < U.heap.size → V.cell? ⟨j, k, none⟩ = U.cell? ⟨j, k, none⟩ := fun {j k} hj => World.cell?_of_block (a := ⟨j, k, none⟩) ((i4 j (by omega)).trans (hbW.block j hj))
          have e1 := (hgo (j := p) (k := 0) hp').trans cp
          have e2 := (hgo (j := q) (k := 0) hq').trans cq
          have e3 := (hgo (j := w2.heap.size) (k := 0) (by omega)).trans ub
          have e4 := (hgo (j := w.heap.size + 1 + 1) (k := 0) (by omega)).trans un
          have e5 : V.frozen? ⟨w.heap.size + 1 + 1, 0, none⟩ = false := (World.frozen?_of_block (a := ⟨w.heap.size + 1 + 1, 0, none⟩) ((i4 (w.heap.size + 1 + 1) (by omega)).trans (hbW.block (w.heap.size + 1 + 1) (by omega)))).trans uf
          have hVz : w.heap.size + 2 < V.heap.size := by omega
          have AT1 := Lib.hid (AT.out V BV)
          clear hgo
          subst hT
          gi_wp2_with (first
            | (gi_at_call 18; refine (Seq.of_calls AT1.out).mono ?_; rintro e w5 ⟨rfl, hb5⟩; have e6 := (hb5.cell (p := ⟨w.heap.size + 1 + 1, 0, none⟩) (by show w.heap.size + 1 + 1 < _; omega)).trans e4; have e7 := (hb5.frozen (p := ⟨w.heap.size + 1 + 1, 0, none⟩) (by show w.heap.size + 1 + 1 < _; omega)).trans e5))
          have hne : W0.heap.size ≠ w.heap.size + 1 + 1 := by omega
          have hKp : (w5.setCell ⟨w.heap.size + 1 + 1, 0, none⟩ (.bool true)).heap[W0.heap.size]? = some (.deferred (some [])) := (Below.heap_setCell _ _ _ _ hne).trans ((hb5.block _ (by omega)).trans hK)
          have hc5 : ((w5.setCell ⟨w.heap.size + 1 + 1, 0, none⟩ (.bool true)).putObj W0.heap.size (.deferred none)).cell? ⟨w.heap.size + 1 + 1, 0, none⟩ = some (.bool true) :=
            (World.cell?_of_block (a := ⟨w.heap.size + 1 + 1, 0, none⟩) (World.putObj_heap_other hne.symm)).trans (World.cell?_setCell_same' _ _ _ (by rw [e6]; rfl))
          rw [hsW] at hKp hc5
          refine ⟨by simp, .inl ⟨_, _, rfl, run_takeDeferred hKp, ?_⟩⟩
          have hs5 := hb5.size
          refine ⟨.bool true, ?_, rfl, ((i3.trans (hb5.mono (by omega))).setCell (by show w.heap.size ≤ w.heap.size + 1 + 1; omega) _).trans (Seq.below_put (by have := HBW.size; omega) (by simp; omega) _)⟩
          simp [results, Try.f3, go_sem, hc5]
set_option maxHeartbeats 4000000 in
set_option maxRecDepth 100000 in
theorem bufferat_not (s0 s1 x y : Int) (A : Option Addr) (n cA : Nat) (hl : 12 < n) (w : World) :
    Calls Try.prog 3 #[.agg #[.int .u8 s0, .int .u8 s1], .slice A n cA, .agg #[.int .i64 x, .int .i64 y]] w fun e w' => e = .returned (.bool true) ∧ Below w.heap.size w w' := by
  have WK := Lib.hid (fun w => wakes_calls w)
  have hlen : (n : Int) > 12 := by omega
  refine Seq.calls_of (n := 0) (callsIn_of_wp_marks Try.func3 rfl trivial ?_ rfl)
  simp only [Try.ntmps3, List.size_toArray, List.length_cons, List.length_nil, Nat.reduceAdd, Nat.reduceSub, Array.replicate_succ, Array.replicate_zero, List.push_toArray, List.append_toArray, List.nil_append, List.cons_append]
  gi_wp2_with (first
    | (gi_at_call 15; refine (Seq.of_calls (WK.out _)).mono ?_; rintro e w1 ⟨rfl, hb1⟩; have z1 : w.heap.size + 2 < w1.heap.size := Nat.lt_of_lt_of_le (by simp) hb1.size; have n0 := (hb1.cell (p := ⟨w.heap.size + 1 + 1, 0, none⟩) (by simp)).trans (show _ = some (Value.bool false) by go_simp); have f0 := (hb1.frozen (p := ⟨w.heap.size + 1 + 1, 0, none⟩) (by simp)).trans (show _ = false by go_simp); have HB1 : Below w.heap.size w w1 := ((((Below.refl _ w).alloc (Nat.le_refl _) _).alloc (by simp) _).alloc (by simp; omega) _).trans (hb1.mono (by simp; omega))))
  have hc5 : (w1.setCell ⟨w.heap.size + 1 + 1, 0, none⟩ (.bool true)).cell? ⟨w.heap.size + 1 + 1, 0, none⟩ = some (.bool true) := World.cell?_setCell_same' _ _ _ (by rw [n0]; rfl)
  refine ⟨.bool true, ?_, rfl, HB1.setCell (by show w.heap.size ≤ w.heap.size + 1 + 1; omega) _⟩
  simp [results, Try.f3, go_sem, hc5]
theorem bufferat_row {v : Value} {xs : List (List Int)} {s0 s1 x y : Int} (h0 : 0 ≤ s0 ∧ s0 ≤ 255) (h1 : 0 ≤ s1 ∧ s1 ≤ 255) {W : World} (f : Open.FlatRow W [.i64, .i64, .i64, .i64] v xs) :
    Calls Try.prog 3 #[.agg #[.int .u8 s0, .int .u8 s1], v, .agg #[.int .i64 x, .int .i64 y]] W fun e w' => e = .returned (.bool true) ∧ Below W.heap.size W w' := by
  obtain ⟨A, cA, es, rfl, hcA, hmA, hE, hI⟩ := edges_in f
  by_cases h : es.length ≤ 12
  · exact bufferat s0 s1 x y h0 h1 A es cA h hI W hE
  · exact bufferat_not s0 s1 x y A es.length cA (by omega) W
end Buf
namespace bufferAt
open Go.ChangeShapes Go.WideShapes Go.ChangeAt Go.RowKit
open Go.ChangeMaps (open_string shut_string)
theorem own : ownKnob Try.prog.godebug = none := by kernel_rfl
theorem laidOut : laidOutB Try.prog = true := by kernel_rfl
set_option maxRecDepth 100000 in
theorem lifted (os : Os) (started : os.Started) (H : Type) (enc : TypeId × Value → H) :
    ReturnsInHanded {} Try.checked os 3 .any (Rows.bufferAtSpec.pre6 enc Try.prog Try.f3 Rows.bufferAtRow.domain false) (Rows.bufferAtSpec.post enc Try.prog Try.f3 false true false false) := by
  refine returnsInHanded_of_change_sized (C := Try.checked) own started (by kernel_rfl) Try.func3
    (ChangeSpec.witness6 (enc := enc) (C := Try.checked) false ⟨#[], #[.agg #[.int .u8 0, .int .u8 0], .slice none 0 0, .agg #[.int .i64 0, .int .i64 0]], []⟩ 8 (by kernel_rfl) (by kernel_rfl) (by kernel_rfl) (by kernel_rfl)) ?_
  intro W base args ds gs before hval0 hW hcnd hsz0 _
  have hval : ∀ (j : Nat) t v, Try.f3.params[j]? = some t → args[j]? = some v → Value.okWide Try.prog W .any base t v := hval0
  have hW' := hW
  obtain ⟨p, q, hA0, hV, rfl, hfz, hnd⟩ := hW
  have hA : DataW.TrodAll enc Try.prog W 0 (fun _ => true) true Try.f3.params.toList args.toList ds p := hA0
  have hlt : ∀ x ∈ p, x.block < W.heap.size := fun x hx => by simpa using hW'.lt x (by simp [hx])
  have hready : ∀ t ∈ Try.f3.params.toList, Try.prog.readableRec t = true ∧ t < Try.prog.types.size := by
    rw [Try.params3]
    intro t ht
    simp only [List.mem_cons, List.not_mem_nil, or_false] at ht
    rcases ht with rfl | rfl | rfl <;> exact ⟨by kernel_rfl, of_decide_eq_true (by kernel_rfl)⟩
  have hAk := hA
  rw [Try.params3] at hA hval
  obtain ⟨v0, vs0, d0, ds0, p0, q0, hargs, rfl, rfl, h0, r0⟩ := trodAll_cons hA
  obtain ⟨v1, vs1, d1, ds1, p1, q1, rfl, rfl, rfl, h1, r1⟩ := trodAll_cons r0
  obtain ⟨v2, vs2, d2, ds2, p2, q2, rfl, rfl, rfl, h2, r2⟩ := trodAll_cons r1
  obtain ⟨rfl, rfl, rfl⟩ := trodAll_nil r2
  obtain rfl : args = #[v0, v1, v2] := by cases args; simp_all
  obtain ⟨rfl, rfl⟩ := trodVars_none hV
  obtain ⟨c0, m0, rfl, i0⟩ := Open.Flat.open_agg flatTwo8 (.inr ⟨_, _, Try.underlying22⟩) (hval 0 22 v0 rfl rfl) h0
  obtain ⟨n0_0, n0_1, rfl, x0_0, x0_1⟩ := i0.of2
  obtain ⟨xs1, f1⟩ := Open.Flat.open_slice flatEdge (by decide) Try.underlying23 (hval 1 23 v1 rfl rfl) h1
  obtain ⟨c2, m2, rfl, i2⟩ := Open.Flat.open_agg flatTwoI (.inr ⟨_, _, Try.underlying24⟩) (hval 2 24 v2 rfl rfl) h2
  obtain ⟨n2_0, n2_1, rfl, x2_0, x2_1⟩ := i2.of2
  clear hA0 hval0 hsz0
  refine (Buf.bufferat_row (Num.wf_u8 x0_0) (Num.wf_u8 x0_1) f1).mono fun e W' ⟨he, bel⟩ => ?_
  subst he
  exact ⟨_, rfl, _, _, _, [], _, [], hW', trodAll_mk1 (shut_bool Try.underlying4 _), Open.trodAll_below laidOut bel hready hAk hlt, rfl, bel.frame _, fun h => by cases h⟩
theorem over : Rows.bufferAtRow.holds Try.pinned (OpenSpec.ofChange Rows.bufferAtSpec) :=
  OpenClaim.holds_of_wide 3 Try.f3 rfl rfl rfl rfl rfl rfl rfl ⟨rfl, rfl, rfl, rfl, rfl⟩ rfl rfl rfl rfl rfl (by kernel_rfl) Try.func3 (by kernel_rfl)
    (of_decide_eq_true (by kernel_rfl)) (by unfold Func.isWrapper; first | (rw [if_pos (by decide +kernel)]; kernel_rfl) | (rw [if_neg (by decide +kernel)]; exact ⟨rfl, rfl⟩))
    (fun os started H enc _ => lifted os started H enc)
theorem proved : Rows.BufferAtSaid := over
end bufferAt
/-- The row, for the claim. -/
theorem bufferAt_holds : Rows.BufferAtSaid := bufferAt.proved
end Go.Proofs.Ytejcjonlnijbkaa
