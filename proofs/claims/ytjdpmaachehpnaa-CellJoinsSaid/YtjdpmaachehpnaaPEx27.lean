-- Printed by xprint.py, a program of this session: the kit's print, with own texts for some functions.
import Derived.Test.YtjdpmaachehpnaaPEx0
import Derived.Test.YtjdpmaachehpnaaPEx13
import Derived.Test.YtjdpmaachehpnaaPEx17
import Derived.Test.YtjdpmaachehpnaaCuts
namespace Go.Proofs.Ytjdpmaachehpnaa.PE
open Go.RowKit Go.Proofs.YtjdpmaachehpnaaW.PrintWords Go.Proofs.YtjdpmaachehpnaaW.PrintLast Go.Proofs.YtjdpmaachehpnaaW.PrintMore
attribute [local go_sem] max2_int min2_int max_two min_two max_three min_three max_four min_four   -- for this text's walks alone
set_option linter.unusedVariables false
set_option linter.unusedSimpArgs false

/-! ### pointillistlaw16_CellJoins: function 10 -/
mutual
def pointillistlaw16_CellJoins.j0 : Nat → Int → Bool → Int → Int → Int → Int → Option (Bool)
 | 0, _, _, _, _, _, _ => none
 | k + 1, x1, x16, x272000, x272001, x272002, x272003 => if x16 = true then (some true) else ((pointillistlaw16_cuts.f x272000 x272001 x272002 x272003 (wrap64 (x1)) 999).bind fun t274 => (if (t274.length : Int) = 0 then (pointillistlaw16_CellJoins.j1 k t274 true x272000 x272001 x272002 x272003) else (if 0 < (t274.length : Int) then (if ((rd_T32 t274 0).f0) = x272000 then (if ((rd_T32 t274 0).f1) = x272001 then (if 0 ≤ (wrap64 ((t274.length : Int) - 1)) then (if (wrap64 ((t274.length : Int) - 1)) < (t274.length : Int) then (if ((rd_T32 t274 (wrap64 ((t274.length : Int) - 1))).f2) = x272002 then (pointillistlaw16_CellJoins.j1 k t274 (((rd_T32 t274 (wrap64 ((t274.length : Int) - 1))).f3) != x272003) x272000 x272001 x272002 x272003) else (pointillistlaw16_CellJoins.j1 k t274 true x272000 x272001 x272002 x272003)) else (none)) else (none)) else (pointillistlaw16_CellJoins.j1 k t274 true x272000 x272001 x272002 x272003)) else (pointillistlaw16_CellJoins.j1 k t274 true x272000 x272001 x272002 x272003)) else (none))))
def pointillistlaw16_CellJoins.j1 : Nat → List (S32) → Bool → Int → Int → Int → Int → Option (Bool)
 | 0, _, _, _, _, _, _ => none
 | k + 1, x5, x65, x272000, x272001, x272002, x272003 => if x65 = true then (some false) else (pointillistlaw16_CellJoins.l0 k x5 x5 (x5.length : Int) 0 x272000 x272001 x272002 x272003)
def pointillistlaw16_CellJoins.l0 : Nat → List (S32) → List (S32) → Int → Int → Int → Int → Int → Int → Option (Bool)
 | 0, _, _, _, _, _, _, _, _ => none
 | k + 1, x5, x66, x67, x68, x272000, x272001, x272002, x272003 => if x68 < x67 then (if 0 ≤ x68 then (if x68 < (x66.length : Int) then (if x68 > 0 then (if 0 ≤ (wrap64 (x68 - 1)) then (if (wrap64 (x68 - 1)) < (x5.length : Int) then (if ((rd_T32 x66 x68).f0) = ((rd_T32 x5 (wrap64 (x68 - 1))).f2) then (pointillistlaw16_CellJoins.j3 k x5 x66 x67 x68 (((rd_T32 x66 x68).f1) != ((rd_T32 x5 (wrap64 (x68 - 1))).f3)) x272000 x272001 x272002 x272003 ((rd_T32 x66 x68).f0) ((rd_T32 x66 x68).f1) ((rd_T32 x66 x68).f2) ((rd_T32 x66 x68).f3)) else (pointillistlaw16_CellJoins.j3 k x5 x66 x67 x68 true x272000 x272001 x272002 x272003 ((rd_T32 x66 x68).f0) ((rd_T32 x66 x68).f1) ((rd_T32 x66 x68).f2) ((rd_T32 x66 x68).f3))) else (none)) else (none)) else (pointillistlaw16_CellJoins.j3 k x5 x66 x67 x68 false x272000 x272001 x272002 x272003 ((rd_T32 x66 x68).f0) ((rd_T32 x66 x68).f1) ((rd_T32 x66 x68).f2) ((rd_T32 x66 x68).f3))) else (none)) else (none)) else (some true)
def pointillistlaw16_CellJoins.j3 : Nat → List (S32) → List (S32) → Int → Int → Bool → Int → Int → Int → Int → Int → Int → Int → Int → Option (Bool)
 | 0, _, _, _, _, _, _, _, _, _, _, _, _, _ => none
 | k + 1, x5, x66, x67, x68, x96, x272000, x272001, x272002, x272003, x283000, x283001, x283002, x283003 => if x96 = true then (some false) else (if x272000 ≤ x272002 then (if x283002 < x283000 then (some false) else (if x272000 ≥ x272002 then (if x283002 > x283000 then (some false) else (if x272001 ≤ x272003 then (if x283003 < x283001 then (some false) else (if x272001 ≥ x272003 then (if x283003 > x283001 then (some false) else (pointillistlaw16_CellJoins.l0 k x5 x66 x67 (wrap64 (x68 + 1)) x272000 x272001 x272002 x272003)) else (pointillistlaw16_CellJoins.l0 k x5 x66 x67 (wrap64 (x68 + 1)) x272000 x272001 x272002 x272003))) else (if x272001 ≥ x272003 then (if x283003 > x283001 then (some false) else (pointillistlaw16_CellJoins.l0 k x5 x66 x67 (wrap64 (x68 + 1)) x272000 x272001 x272002 x272003)) else (pointillistlaw16_CellJoins.l0 k x5 x66 x67 (wrap64 (x68 + 1)) x272000 x272001 x272002 x272003)))) else (if x272001 ≤ x272003 then (if x283003 < x283001 then (some false) else (if x272001 ≥ x272003 then (if x283003 > x283001 then (some false) else (pointillistlaw16_CellJoins.l0 k x5 x66 x67 (wrap64 (x68 + 1)) x272000 x272001 x272002 x272003)) else (pointillistlaw16_CellJoins.l0 k x5 x66 x67 (wrap64 (x68 + 1)) x272000 x272001 x272002 x272003))) else (if x272001 ≥ x272003 then (if x283003 > x283001 then (some false) else (pointillistlaw16_CellJoins.l0 k x5 x66 x67 (wrap64 (x68 + 1)) x272000 x272001 x272002 x272003)) else (pointillistlaw16_CellJoins.l0 k x5 x66 x67 (wrap64 (x68 + 1)) x272000 x272001 x272002 x272003))))) else (if x272000 ≥ x272002 then (if x283002 > x283000 then (some false) else (if x272001 ≤ x272003 then (if x283003 < x283001 then (some false) else (if x272001 ≥ x272003 then (if x283003 > x283001 then (some false) else (pointillistlaw16_CellJoins.l0 k x5 x66 x67 (wrap64 (x68 + 1)) x272000 x272001 x272002 x272003)) else (pointillistlaw16_CellJoins.l0 k x5 x66 x67 (wrap64 (x68 + 1)) x272000 x272001 x272002 x272003))) else (if x272001 ≥ x272003 then (if x283003 > x283001 then (some false) else (pointillistlaw16_CellJoins.l0 k x5 x66 x67 (wrap64 (x68 + 1)) x272000 x272001 x272002 x272003)) else (pointillistlaw16_CellJoins.l0 k x5 x66 x67 (wrap64 (x68 + 1)) x272000 x272001 x272002 x272003)))) else (if x272001 ≤ x272003 then (if x283003 < x283001 then (some false) else (if x272001 ≥ x272003 then (if x283003 > x283001 then (some false) else (pointillistlaw16_CellJoins.l0 k x5 x66 x67 (wrap64 (x68 + 1)) x272000 x272001 x272002 x272003)) else (pointillistlaw16_CellJoins.l0 k x5 x66 x67 (wrap64 (x68 + 1)) x272000 x272001 x272002 x272003))) else (if x272001 ≥ x272003 then (if x283003 > x283001 then (some false) else (pointillistlaw16_CellJoins.l0 k x5 x66 x67 (wrap64 (x68 + 1)) x272000 x272001 x272002 x272003)) else (pointillistlaw16_CellJoins.l0 k x5 x66 x67 (wrap64 (x68 + 1)) x272000 x272001 x272002 x272003)))))
end
def pointillistlaw16_CellJoins.f (k : Nat) (a0_0 : Int) (a0_1 : Int) (a0_2 : Int) (a0_3 : Int) (a1 : Int) : Option (Bool) := (pointillistlaw16_wakes.f).bind fun t272 => (if t272 = true then ((pointillistref16_Right.f a0_0 a0_1 a0_2 a0_3).bind fun t273 => (if t273 = true then (pointillistlaw16_CellJoins.j0 k a1 (a1 == 0) a0_0 a0_1 a0_2 a0_3) else (pointillistlaw16_CellJoins.j0 k a1 true a0_0 a0_1 a0_2 a0_3))) else (some false))
theorem pointillistlaw16_CellJoins.mono_l : ∀ k, (∀ y0 y1 y2 y3 y4 y5, LeO (pointillistlaw16_CellJoins.j0 k y0 y1 y2 y3 y4 y5) (pointillistlaw16_CellJoins.j0 (k + 1) y0 y1 y2 y3 y4 y5)) ∧ (∀ y0 y1 y2 y3 y4 y5, LeO (pointillistlaw16_CellJoins.j1 k y0 y1 y2 y3 y4 y5) (pointillistlaw16_CellJoins.j1 (k + 1) y0 y1 y2 y3 y4 y5)) ∧ (∀ y0 y1 y2 y3 y4 y5 y6 y7, LeO (pointillistlaw16_CellJoins.l0 k y0 y1 y2 y3 y4 y5 y6 y7) (pointillistlaw16_CellJoins.l0 (k + 1) y0 y1 y2 y3 y4 y5 y6 y7)) ∧ (∀ y0 y1 y2 y3 y4 y5 y6 y7 y8 y9 y10 y11 y12, LeO (pointillistlaw16_CellJoins.j3 k y0 y1 y2 y3 y4 y5 y6 y7 y8 y9 y10 y11 y12) (pointillistlaw16_CellJoins.j3 (k + 1) y0 y1 y2 y3 y4 y5 y6 y7 y8 y9 y10 y11 y12))
 | 0 => ⟨fun _ _ _ _ _ _ r h => by simp [pointillistlaw16_CellJoins.j0] at h, fun _ _ _ _ _ _ r h => by simp [pointillistlaw16_CellJoins.j1] at h, fun _ _ _ _ _ _ _ _ r h => by simp [pointillistlaw16_CellJoins.l0] at h, fun _ _ _ _ _ _ _ _ _ _ _ _ _ r h => by simp [pointillistlaw16_CellJoins.j3] at h⟩
 | k + 1 => by
  obtain ⟨ih0, ih1, ih2, ih3⟩ := pointillistlaw16_CellJoins.mono_l k
  refine ⟨?_, ?_, ?_, ?_⟩
  ·intro y0 y1 y2 y3 y4 y5
   unfold pointillistlaw16_CellJoins.j0
   repeat' first
   | (with_reducible exact ih0 _ _ _ _ _ _)
   | (with_reducible exact ih1 _ _ _ _ _ _)
   | (with_reducible exact ih2 _ _ _ _ _ _ _ _)
   | (with_reducible exact ih3 _ _ _ _ _ _ _ _ _ _ _ _ _)
   | (with_reducible exact LeO.refl _)
   | (with_reducible exact LeO.none _)
   | (with_reducible refine LeO.ite ?_ ?_)
   | (with_reducible refine LeO.bind ?_ (fun _ => ?_))
   | exact ih0 _ _ _ _ _ _
   | exact ih1 _ _ _ _ _ _
   | exact ih2 _ _ _ _ _ _ _ _
   | exact ih3 _ _ _ _ _ _ _ _ _ _ _ _ _
   | exact LeO.none _
   | refine LeO.ite ?_ ?_
   | refine LeO.bind ?_ (fun _ => ?_)
  ·intro y0 y1 y2 y3 y4 y5
   unfold pointillistlaw16_CellJoins.j1
   repeat' first
   | (with_reducible exact ih0 _ _ _ _ _ _)
   | (with_reducible exact ih1 _ _ _ _ _ _)
   | (with_reducible exact ih2 _ _ _ _ _ _ _ _)
   | (with_reducible exact ih3 _ _ _ _ _ _ _ _ _ _ _ _ _)
   | (with_reducible exact LeO.refl _)
   | (with_reducible exact LeO.none _)
   | (with_reducible refine LeO.ite ?_ ?_)
   | (with_reducible refine LeO.bind ?_ (fun _ => ?_))
   | exact ih0 _ _ _ _ _ _
   | exact ih1 _ _ _ _ _ _
   | exact ih2 _ _ _ _ _ _ _ _
   | exact ih3 _ _ _ _ _ _ _ _ _ _ _ _ _
   | exact LeO.none _
   | refine LeO.ite ?_ ?_
   | refine LeO.bind ?_ (fun _ => ?_)
  ·intro y0 y1 y2 y3 y4 y5 y6 y7
   unfold pointillistlaw16_CellJoins.l0
   repeat' first
   | (with_reducible exact ih0 _ _ _ _ _ _)
   | (with_reducible exact ih1 _ _ _ _ _ _)
   | (with_reducible exact ih2 _ _ _ _ _ _ _ _)
   | (with_reducible exact ih3 _ _ _ _ _ _ _ _ _ _ _ _ _)
   | (with_reducible exact LeO.refl _)
   | (with_reducible exact LeO.none _)
   | (with_reducible refine LeO.ite ?_ ?_)
   | (with_reducible refine LeO.bind ?_ (fun _ => ?_))
   | exact ih0 _ _ _ _ _ _
   | exact ih1 _ _ _ _ _ _
   | exact ih2 _ _ _ _ _ _ _ _
   | exact ih3 _ _ _ _ _ _ _ _ _ _ _ _ _
   | exact LeO.none _
   | refine LeO.ite ?_ ?_
   | refine LeO.bind ?_ (fun _ => ?_)
  ·intro y0 y1 y2 y3 y4 y5 y6 y7 y8 y9 y10 y11 y12
   unfold pointillistlaw16_CellJoins.j3
   repeat' first
   | (with_reducible exact ih0 _ _ _ _ _ _)
   | (with_reducible exact ih1 _ _ _ _ _ _)
   | (with_reducible exact ih2 _ _ _ _ _ _ _ _)
   | (with_reducible exact ih3 _ _ _ _ _ _ _ _ _ _ _ _ _)
   | (with_reducible exact LeO.refl _)
   | (with_reducible exact LeO.none _)
   | (with_reducible refine LeO.ite ?_ ?_)
   | (with_reducible refine LeO.bind ?_ (fun _ => ?_))
   | exact ih0 _ _ _ _ _ _
   | exact ih1 _ _ _ _ _ _
   | exact ih2 _ _ _ _ _ _ _ _
   | exact ih3 _ _ _ _ _ _ _ _ _ _ _ _ _
   | exact LeO.none _
   | refine LeO.ite ?_ ?_
   | refine LeO.bind ?_ (fun _ => ?_)
theorem pointillistlaw16_CellJoins.mono : ∀ a0 a1 a2 a3 a4 k, LeO (pointillistlaw16_CellJoins.f k a0 a1 a2 a3 a4) (pointillistlaw16_CellJoins.f (k + 1) a0 a1 a2 a3 a4) := by
 intro a0 a1 a2 a3 a4 k
 obtain ⟨ih0, ih1, ih2, ih3⟩ := pointillistlaw16_CellJoins.mono_l k
 unfold pointillistlaw16_CellJoins.f
 repeat' first
   | (with_reducible exact ih0 _ _ _ _ _ _)
   | (with_reducible exact ih1 _ _ _ _ _ _)
   | (with_reducible exact ih2 _ _ _ _ _ _ _ _)
   | (with_reducible exact ih3 _ _ _ _ _ _ _ _ _ _ _ _ _)
   | (with_reducible exact LeO.refl _)
   | (with_reducible exact LeO.none _)
   | (with_reducible refine LeO.ite ?_ ?_)
   | (with_reducible refine LeO.bind ?_ (fun _ => ?_))
   | exact ih0 _ _ _ _ _ _
   | exact ih1 _ _ _ _ _ _
   | exact ih2 _ _ _ _ _ _ _ _
   | exact ih3 _ _ _ _ _ _ _ _ _ _ _ _ _
   | exact LeO.none _
   | refine LeO.ite ?_ ?_
   | refine LeO.bind ?_ (fun _ => ?_)
set_option maxHeartbeats 8000000 in
set_option maxRecDepth 100000 in
theorem pointillistlaw16_CellJoins.calls (k : Nat) (a0_0 : Int) (a0_1 : Int) (a0_2 : Int) (a0_3 : Int) (a1 : Int) (r : Bool) (w : World) (h : pointillistlaw16_CellJoins.f k a0_0 a0_1 a0_2 a0_3 a1 = some r) :
  Calls Try.prog 10 #[.agg #[.int .i64 a0_0, .int .i64 a0_1, .int .i64 a0_2, .int .i64 a0_3], .int .u8 a1] w fun e w' => e = .returned (.bool r) ∧ Below w.heap.size w w' := by
 have hu32 := Try.underlying32
 have HB := Aside0.mk (Below.refl w.heap.size w)
 have H : ((pointillistlaw16_wakes.f).bind fun t272 => (if t272 = true then ((pointillistref16_Right.f a0_0 a0_1 a0_2 a0_3).bind fun t273 => (if t273 = true then (pointillistlaw16_CellJoins.j0 k a1 (a1 == 0) a0_0 a0_1 a0_2 a0_3) else (pointillistlaw16_CellJoins.j0 k a1 true a0_0 a0_1 a0_2 a0_3))) else (some false))) = some r := h
 clear h
 replace H := Option.bind_eq_some_iff.mp H
 obtain ⟨t272, A30, H⟩ := H
 replace H : (if t272 = true then ((pointillistref16_Right.f a0_0 a0_1 a0_2 a0_3).bind fun t273 => (if t273 = true then (pointillistlaw16_CellJoins.j0 k a1 (a1 == 0) a0_0 a0_1 a0_2 a0_3) else (pointillistlaw16_CellJoins.j0 k a1 true a0_0 a0_1 a0_2 a0_3))) else (some false)) = some r := H
 have A3 := Aside0.mk A30
 clear A30
 by_cases c4 : t272 = true
 ·subst c4
  have H1 : ((pointillistref16_Right.f a0_0 a0_1 a0_2 a0_3).bind fun t273 => (if t273 = true then (pointillistlaw16_CellJoins.j0 k a1 (a1 == 0) a0_0 a0_1 a0_2 a0_3) else (pointillistlaw16_CellJoins.j0 k a1 true a0_0 a0_1 a0_2 a0_3))) = some r := by rw [if_pos rfl] at H; exact H
  clear H
  have H := H1
  clear H1
  have HC5 := Aside0.mk H
  clear H
  go_enter Try.func10, Try.ntmps10
  go_upto_region 3 with (first | ((with_reducible refine gate_dst (N := 2) rfl ?_); (try (refine gate_guard (by rfl) ?_; dsimp only)); refine box_event ?hg (N := 2) ?hd (cs := #[.int .i64 a0_0, .int .i64 a0_1, .int .i64 a0_2, .int .i64 a0_3]) (t := 32) ?hr ?_; (case hd => rfl); (case hg => rfl); (case hr => first | (go_simp; done) | (go_simp; rfl)); intro gb271 hg w6 hbox hb; have n0_ := Aside0.mk (below_step (by repeat (first | (with_reducible first | exact HB.out | apply below_alloc | apply pw_below_drewN | apply below_drew1) | exact HB.out)) hb); have n1_ := Aside0.mk (hbox); have n2_ := Aside0.mk ((by rw [hg]; exact (below_size (by repeat (first | (with_reducible first | exact HB.out | apply below_alloc | apply pw_below_drewN | apply below_drew1) | exact HB.out))) : w.heap.size ≤ gb271)); have n3_ := Aside0.mk ((by rw [hg]; exact (below_size (by repeat (first | (with_reducible first | exact HB.out | apply below_alloc | apply pw_below_drewN | apply below_drew1) | exact HB.out))) : w.heap.size ≤ gb271)); clear HB; have HB := n0_; have BK271 := n1_; have GW271 := n2_; have GE271 := n3_; clear n0_ n1_ n2_ n3_; clear hb hbox hg) | (go_at_call 22; (with_reducible refine (pointillistlaw16_wakes.calls  true _ A3.out).mono ?_); rintro e w7 ⟨rfl, hb⟩; have n0_ := Aside0.mk (blk_below (g := gb271) (o := .cells #[.int .i64 a0_0, .int .i64 a0_1, .int .i64 a0_2, .int .i64 a0_3] 32 (0, 0)) (by (with_reducible repeat (first | refine blk_drewN ?_ _ | refine blk_drew ?_ | refine blk_alloc ?_ _)); exact BK271.out) hb); have n1_ := Aside0.mk (below_step (by repeat (first | (with_reducible first | exact HB.out | apply below_alloc | apply pw_below_drewN | apply below_drew1 | refine below_set ?_ GE271.out) | exact HB.out)) hb); clear BK271; clear HB; have BK271 := n0_; have HB := n1_; clear n0_ n1_; (try clear hb); (try clear hb2); (try clear hk); (try clear hi)))
  repeat (go_quiet (first | ((with_reducible refine gate_dst (N := 2) rfl ?_); (try (refine gate_guard (by rfl) ?_; dsimp only)); refine box_event ?hg (N := 2) ?hd (cs := #[.int .i64 a0_0, .int .i64 a0_1, .int .i64 a0_2, .int .i64 a0_3]) (t := 32) ?hr ?_; (case hd => rfl); (case hg => rfl); (case hr => first | (go_simp; done) | (go_simp; rfl)); intro gb271 hg w6 hbox hb; have n0_ := Aside0.mk (below_step (by repeat (first | (with_reducible first | exact HB.out | apply below_alloc | apply pw_below_drewN | apply below_drew1) | exact HB.out)) hb); have n1_ := Aside0.mk (hbox); have n2_ := Aside0.mk ((by rw [hg]; exact (below_size (by repeat (first | (with_reducible first | exact HB.out | apply below_alloc | apply pw_below_drewN | apply below_drew1) | exact HB.out))) : w.heap.size ≤ gb271)); have n3_ := Aside0.mk ((by rw [hg]; exact (below_size (by repeat (first | (with_reducible first | exact HB.out | apply below_alloc | apply pw_below_drewN | apply below_drew1) | exact HB.out))) : w.heap.size ≤ gb271)); clear HB; have HB := n0_; have BK271 := n1_; have GW271 := n2_; have GE271 := n3_; clear n0_ n1_ n2_ n3_; clear hb hbox hg) | (go_at_call 22; (with_reducible refine (pointillistlaw16_wakes.calls  true _ A3.out).mono ?_); rintro e w7 ⟨rfl, hb⟩; have n0_ := Aside0.mk (blk_below (g := gb271) (o := .cells #[.int .i64 a0_0, .int .i64 a0_1, .int .i64 a0_2, .int .i64 a0_3] 32 (0, 0)) (by (with_reducible repeat (first | refine blk_drewN ?_ _ | refine blk_drew ?_ | refine blk_alloc ?_ _)); exact BK271.out) hb); have n1_ := Aside0.mk (below_step (by repeat (first | (with_reducible first | exact HB.out | apply below_alloc | apply pw_below_drewN | apply below_drew1 | refine below_set ?_ GE271.out) | exact HB.out)) hb); clear BK271; clear HB; have BK271 := n0_; have HB := n1_; clear n0_ n1_; (try clear hb); (try clear hb2); (try clear hk); (try clear hi))); go_upto_region 3 with (first | ((with_reducible refine gate_dst (N := 2) rfl ?_); (try (refine gate_guard (by rfl) ?_; dsimp only)); refine box_event ?hg (N := 2) ?hd (cs := #[.int .i64 a0_0, .int .i64 a0_1, .int .i64 a0_2, .int .i64 a0_3]) (t := 32) ?hr ?_; (case hd => rfl); (case hg => rfl); (case hr => first | (go_simp; done) | (go_simp; rfl)); intro gb271 hg w6 hbox hb; have n0_ := Aside0.mk (below_step (by repeat (first | (with_reducible first | exact HB.out | apply below_alloc | apply pw_below_drewN | apply below_drew1) | exact HB.out)) hb); have n1_ := Aside0.mk (hbox); have n2_ := Aside0.mk ((by rw [hg]; exact (below_size (by repeat (first | (with_reducible first | exact HB.out | apply below_alloc | apply pw_below_drewN | apply below_drew1) | exact HB.out))) : w.heap.size ≤ gb271)); have n3_ := Aside0.mk ((by rw [hg]; exact (below_size (by repeat (first | (with_reducible first | exact HB.out | apply below_alloc | apply pw_below_drewN | apply below_drew1) | exact HB.out))) : w.heap.size ≤ gb271)); clear HB; have HB := n0_; have BK271 := n1_; have GW271 := n2_; have GE271 := n3_; clear n0_ n1_ n2_ n3_; clear hb hbox hg) | (go_at_call 22; (with_reducible refine (pointillistlaw16_wakes.calls  true _ A3.out).mono ?_); rintro e w7 ⟨rfl, hb⟩; have n0_ := Aside0.mk (blk_below (g := gb271) (o := .cells #[.int .i64 a0_0, .int .i64 a0_1, .int .i64 a0_2, .int .i64 a0_3] 32 (0, 0)) (by (with_reducible repeat (first | refine blk_drewN ?_ _ | refine blk_drew ?_ | refine blk_alloc ?_ _)); exact BK271.out) hb); have n1_ := Aside0.mk (below_step (by repeat (first | (with_reducible first | exact HB.out | apply below_alloc | apply pw_below_drewN | apply below_drew1 | refine below_set ?_ GE271.out) | exact HB.out)) hb); clear BK271; clear HB; have BK271 := n0_; have HB := n1_; clear n0_ n1_; (try clear hb); (try clear hb2); (try clear hk); (try clear hi))))
  (try simp only [Act.put, List.setIfInBounds_toArray, List.set_cons_zero, List.set_cons_succ])
  go_cut [16] (fun v16 wc => ∃ (kq : Nat) (x16_4 : Bool), v16 = .bool x16_4 ∧ Aside0 (pointillistlaw16_CellJoins.j0 kq a1 x16_4 a0_0 a0_1 a0_2 a0_3 = some r) ∧ Aside0 (kq ≤ k) ∧ Aside0 (wc.heap[gb271]? = some (.cells #[.int .i64 a0_0, .int .i64 a0_1, .int .i64 a0_2, .int .i64 a0_3] 32 (0, 0))) ∧ Aside0 (Below w.heap.size w wc))
  case first =>
   have H := HC5.out
   clear HC5
   replace H := Option.bind_eq_some_iff.mp H
   obtain ⟨t273, A80, H⟩ := H
   replace H : (if t273 = true then (pointillistlaw16_CellJoins.j0 k a1 (a1 == 0) a0_0 a0_1 a0_2 a0_3) else (pointillistlaw16_CellJoins.j0 k a1 true a0_0 a0_1 a0_2 a0_3)) = some r := H
   have A8 := Aside0.mk A80
   clear A80
   by_cases c9 : t273 = true
   ·subst c9
    have H1 : (pointillistlaw16_CellJoins.j0 k a1 (a1 == 0) a0_0 a0_1 a0_2 a0_3) = some r := by rw [if_pos rfl] at H; exact H
    clear H
    have H := H1
    clear H1
    as_aux_lemma =>
     have H' := Aside0.mk H
     clear H
     have hcz10_0 : w7.cell? ⟨gb271, 0, none⟩ = some (.int .i64 a0_0) := (blk_cell BK271.out 0).trans rfl
     have hcz10_1 : w7.cell? ⟨gb271, 1, none⟩ = some (.int .i64 a0_1) := (blk_cell BK271.out 1).trans rfl
     have hcz10_2 : w7.cell? ⟨gb271, 2, none⟩ = some (.int .i64 a0_2) := (blk_cell BK271.out 2).trans rfl
     have hcz10_3 : w7.cell? ⟨gb271, 3, none⟩ = some (.int .i64 a0_3) := (blk_cell BK271.out 3).trans rfl
     have hfz10_0 := blk_frozen BK271.out 0
     have hfz10_1 := blk_frozen BK271.out 1
     have hfz10_2 := blk_frozen BK271.out 2
     have hfz10_3 := blk_frozen BK271.out 3
     go_wp2_with (first | (go_at_call 23; (with_reducible refine (pointillistref16_Right.calls a0_0 a0_1 a0_2 a0_3 true _ A8.out).mono ?_); rintro e w11 ⟨rfl, hb⟩; have n0_ := Aside0.mk (blk_below (g := gb271) (o := .cells #[.int .i64 a0_0, .int .i64 a0_1, .int .i64 a0_2, .int .i64 a0_3] 32 (0, 0)) (by (with_reducible repeat (first | refine blk_drewN ?_ _ | refine blk_drew ?_ | refine blk_alloc ?_ _)); exact BK271.out) hb); have n1_ := Aside0.mk (below_step (by repeat (first | (with_reducible first | exact HB.out | apply below_alloc | apply pw_below_drewN | apply below_drew1 | refine below_set ?_ GE271.out) | exact HB.out)) hb); clear BK271; clear HB; have BK271 := n0_; have HB := n1_; clear n0_ n1_; (try clear hb); (try clear hb2); (try clear hk); (try clear hi)))
     repeat (go_quiet (first | (go_at_call 23; (with_reducible refine (pointillistref16_Right.calls a0_0 a0_1 a0_2 a0_3 true _ A8.out).mono ?_); rintro e w11 ⟨rfl, hb⟩; have n0_ := Aside0.mk (blk_below (g := gb271) (o := .cells #[.int .i64 a0_0, .int .i64 a0_1, .int .i64 a0_2, .int .i64 a0_3] 32 (0, 0)) (by (with_reducible repeat (first | refine blk_drewN ?_ _ | refine blk_drew ?_ | refine blk_alloc ?_ _)); exact BK271.out) hb); have n1_ := Aside0.mk (below_step (by repeat (first | (with_reducible first | exact HB.out | apply below_alloc | apply pw_below_drewN | apply below_drew1 | refine below_set ?_ GE271.out) | exact HB.out)) hb); clear BK271; clear HB; have BK271 := n0_; have HB := n1_; clear n0_ n1_; (try clear hb); (try clear hb2); (try clear hk); (try clear hi))); try go_wp2_with (first | (go_at_call 23; (with_reducible refine (pointillistref16_Right.calls a0_0 a0_1 a0_2 a0_3 true _ A8.out).mono ?_); rintro e w11 ⟨rfl, hb⟩; have n0_ := Aside0.mk (blk_below (g := gb271) (o := .cells #[.int .i64 a0_0, .int .i64 a0_1, .int .i64 a0_2, .int .i64 a0_3] 32 (0, 0)) (by (with_reducible repeat (first | refine blk_drewN ?_ _ | refine blk_drew ?_ | refine blk_alloc ?_ _)); exact BK271.out) hb); have n1_ := Aside0.mk (below_step (by repeat (first | (with_reducible first | exact HB.out | apply below_alloc | apply pw_below_drewN | apply below_drew1 | refine below_set ?_ GE271.out) | exact HB.out)) hb); clear BK271; clear HB; have BK271 := n0_; have HB := n1_; clear n0_ n1_; (try clear hb); (try clear hb2); (try clear hk); (try clear hi))))
     go_meet
     case rel => exact ⟨_, ((a1 == 0)), (by first | rfl | (simp; done) | (simp [*]; done)), H', ⟨by first | omega | exact Nat.le_refl _⟩, ⟨by (with_reducible repeat (first | refine blk_drewN ?_ _ | refine blk_drew ?_ | refine blk_alloc ?_ _)); exact BK271.out⟩, ⟨by repeat (first | (with_reducible first | exact HB.out | apply below_alloc | apply pw_below_drewN | apply below_drew1 | refine below_set ?_ GE271.out) | exact HB.out)⟩⟩
   ·replace c9 := Bool.eq_false_iff.mpr c9
    subst c9
    have H1 : (pointillistlaw16_CellJoins.j0 k a1 true a0_0 a0_1 a0_2 a0_3) = some r := by rw [if_neg (show ¬ (false = true) by decide)] at H; exact H
    clear H
    have H := H1
    clear H1
    as_aux_lemma =>
     have H' := Aside0.mk H
     clear H
     have hcz12_0 : w7.cell? ⟨gb271, 0, none⟩ = some (.int .i64 a0_0) := (blk_cell BK271.out 0).trans rfl
     have hcz12_1 : w7.cell? ⟨gb271, 1, none⟩ = some (.int .i64 a0_1) := (blk_cell BK271.out 1).trans rfl
     have hcz12_2 : w7.cell? ⟨gb271, 2, none⟩ = some (.int .i64 a0_2) := (blk_cell BK271.out 2).trans rfl
     have hcz12_3 : w7.cell? ⟨gb271, 3, none⟩ = some (.int .i64 a0_3) := (blk_cell BK271.out 3).trans rfl
     have hfz12_0 := blk_frozen BK271.out 0
     have hfz12_1 := blk_frozen BK271.out 1
     have hfz12_2 := blk_frozen BK271.out 2
     have hfz12_3 := blk_frozen BK271.out 3
     go_wp2_with (first | (go_at_call 23; (with_reducible refine (pointillistref16_Right.calls a0_0 a0_1 a0_2 a0_3 false _ A8.out).mono ?_); rintro e w13 ⟨rfl, hb⟩; have n0_ := Aside0.mk (blk_below (g := gb271) (o := .cells #[.int .i64 a0_0, .int .i64 a0_1, .int .i64 a0_2, .int .i64 a0_3] 32 (0, 0)) (by (with_reducible repeat (first | refine blk_drewN ?_ _ | refine blk_drew ?_ | refine blk_alloc ?_ _)); exact BK271.out) hb); have n1_ := Aside0.mk (below_step (by repeat (first | (with_reducible first | exact HB.out | apply below_alloc | apply pw_below_drewN | apply below_drew1 | refine below_set ?_ GE271.out) | exact HB.out)) hb); clear BK271; clear HB; have BK271 := n0_; have HB := n1_; clear n0_ n1_; (try clear hb); (try clear hb2); (try clear hk); (try clear hi)))
     repeat (go_quiet (first | (go_at_call 23; (with_reducible refine (pointillistref16_Right.calls a0_0 a0_1 a0_2 a0_3 false _ A8.out).mono ?_); rintro e w13 ⟨rfl, hb⟩; have n0_ := Aside0.mk (blk_below (g := gb271) (o := .cells #[.int .i64 a0_0, .int .i64 a0_1, .int .i64 a0_2, .int .i64 a0_3] 32 (0, 0)) (by (with_reducible repeat (first | refine blk_drewN ?_ _ | refine blk_drew ?_ | refine blk_alloc ?_ _)); exact BK271.out) hb); have n1_ := Aside0.mk (below_step (by repeat (first | (with_reducible first | exact HB.out | apply below_alloc | apply pw_below_drewN | apply below_drew1 | refine below_set ?_ GE271.out) | exact HB.out)) hb); clear BK271; clear HB; have BK271 := n0_; have HB := n1_; clear n0_ n1_; (try clear hb); (try clear hb2); (try clear hk); (try clear hi))); try go_wp2_with (first | (go_at_call 23; (with_reducible refine (pointillistref16_Right.calls a0_0 a0_1 a0_2 a0_3 false _ A8.out).mono ?_); rintro e w13 ⟨rfl, hb⟩; have n0_ := Aside0.mk (blk_below (g := gb271) (o := .cells #[.int .i64 a0_0, .int .i64 a0_1, .int .i64 a0_2, .int .i64 a0_3] 32 (0, 0)) (by (with_reducible repeat (first | refine blk_drewN ?_ _ | refine blk_drew ?_ | refine blk_alloc ?_ _)); exact BK271.out) hb); have n1_ := Aside0.mk (below_step (by repeat (first | (with_reducible first | exact HB.out | apply below_alloc | apply pw_below_drewN | apply below_drew1 | refine below_set ?_ GE271.out) | exact HB.out)) hb); clear BK271; clear HB; have BK271 := n0_; have HB := n1_; clear n0_ n1_; (try clear hb); (try clear hb2); (try clear hk); (try clear hi))))
     go_meet
     case rel => exact ⟨_, (true), (by first | rfl | (simp; done) | (simp [*]; done)), H', ⟨by first | omega | exact Nat.le_refl _⟩, ⟨by (with_reducible repeat (first | refine blk_drewN ?_ _ | refine blk_drew ?_ | refine blk_alloc ?_ _)); exact BK271.out⟩, ⟨by repeat (first | (with_reducible first | exact HB.out | apply below_alloc | apply pw_below_drewN | apply below_drew1 | refine below_set ?_ GE271.out) | exact HB.out)⟩⟩
  case rest =>
   clear HC5
   try clear c1
   try clear p2
   try clear c4
   try clear c9
   try clear c10
   try clear hcz10_0
   try clear hcz10_1
   try clear hcz10_2
   try clear hcz10_3
   try clear hcz12_0
   try clear hcz12_1
   try clear hcz12_2
   try clear hcz12_3
   try clear hfz10_0
   try clear hfz10_1
   try clear hfz10_2
   try clear hfz10_3
   try clear hfz12_0
   try clear hfz12_1
   try clear hfz12_2
   try clear hfz12_3
   obtain ⟨kq, x16_4, rfl, HA, HJ4, BK271, HB⟩ := hcut
   cases kq with
   | zero => exact absurd HA.out (by simp [pointillistlaw16_CellJoins.j0])
   | succ kj4 =>
    have H := HA.out
    clear HA
    simp only [pointillistlaw16_CellJoins.j0] at H
    by_cases c14 : x16_4 = true
    ·subst c14
     have H1 : (some true) = some r := by rw [if_pos rfl] at H; exact H
     clear H
     have H := H1
     clear H1
     as_aux_lemma =>
      obtain rfl := Option.some.inj H
      go_wp2
      repeat (go_quiet (fail); try go_wp2)
      go_ret
      exact ⟨by first | rfl | (simp [errW_none, errW_some] <;> rfl) | (simp [*, errW_none, errW_some] <;> rfl), by repeat (first | (with_reducible first | exact HB.out | apply below_alloc | apply pw_below_drewN | apply below_drew1 | refine below_set ?_ GE271.out) | exact HB.out)⟩
    ·replace c14 := Bool.eq_false_iff.mpr c14
     subst c14
     have H1 : ((pointillistlaw16_cuts.f a0_0 a0_1 a0_2 a0_3 (wrap64 (a1)) 999).bind fun t274 => (if (t274.length : Int) = 0 then (pointillistlaw16_CellJoins.j1 kj4 t274 true a0_0 a0_1 a0_2 a0_3) else (if 0 < (t274.length : Int) then (if ((rd_T32 t274 0).f0) = a0_0 then (if ((rd_T32 t274 0).f1) = a0_1 then (if 0 ≤ (wrap64 ((t274.length : Int) - 1)) then (if (wrap64 ((t274.length : Int) - 1)) < (t274.length : Int) then (if ((rd_T32 t274 (wrap64 ((t274.length : Int) - 1))).f2) = a0_2 then (pointillistlaw16_CellJoins.j1 kj4 t274 (((rd_T32 t274 (wrap64 ((t274.length : Int) - 1))).f3) != a0_3) a0_0 a0_1 a0_2 a0_3) else (pointillistlaw16_CellJoins.j1 kj4 t274 true a0_0 a0_1 a0_2 a0_3)) else (none)) else (none)) else (pointillistlaw16_CellJoins.j1 kj4 t274 true a0_0 a0_1 a0_2 a0_3)) else (pointillistlaw16_CellJoins.j1 kj4 t274 true a0_0 a0_1 a0_2 a0_3)) else (none)))) = some r := by rw [if_neg (show ¬ (false = true) by decide)] at H; exact H
     clear H
     have H := H1
     clear H1
     replace H := Option.bind_eq_some_iff.mp H
     obtain ⟨t274, A150, H⟩ := H
     replace H : (if (t274.length : Int) = 0 then (pointillistlaw16_CellJoins.j1 kj4 t274 true a0_0 a0_1 a0_2 a0_3) else (if 0 < (t274.length : Int) then (if ((rd_T32 t274 0).f0) = a0_0 then (if ((rd_T32 t274 0).f1) = a0_1 then (if 0 ≤ (wrap64 ((t274.length : Int) - 1)) then (if (wrap64 ((t274.length : Int) - 1)) < (t274.length : Int) then (if ((rd_T32 t274 (wrap64 ((t274.length : Int) - 1))).f2) = a0_2 then (pointillistlaw16_CellJoins.j1 kj4 t274 (((rd_T32 t274 (wrap64 ((t274.length : Int) - 1))).f3) != a0_3) a0_0 a0_1 a0_2 a0_3) else (pointillistlaw16_CellJoins.j1 kj4 t274 true a0_0 a0_1 a0_2 a0_3)) else (none)) else (none)) else (pointillistlaw16_CellJoins.j1 kj4 t274 true a0_0 a0_1 a0_2 a0_3)) else (pointillistlaw16_CellJoins.j1 kj4 t274 true a0_0 a0_1 a0_2 a0_3)) else (none))) = some r := H
     have A15 := Aside0.mk A150
     clear A150
     have HC16 := Aside0.mk H
     clear H
     have hcz17_0 : wc.cell? ⟨gb271, 0, none⟩ = some (.int .i64 a0_0) := (blk_cell BK271.out 0).trans rfl
     have hcz17_1 : wc.cell? ⟨gb271, 1, none⟩ = some (.int .i64 a0_1) := (blk_cell BK271.out 1).trans rfl
     have hcz17_2 : wc.cell? ⟨gb271, 2, none⟩ = some (.int .i64 a0_2) := (blk_cell BK271.out 2).trans rfl
     have hcz17_3 : wc.cell? ⟨gb271, 3, none⟩ = some (.int .i64 a0_3) := (blk_cell BK271.out 3).trans rfl
     have hfz17_0 := blk_frozen BK271.out 0
     have hfz17_1 := blk_frozen BK271.out 1
     have hfz17_2 := blk_frozen BK271.out 2
     have hfz17_3 := blk_frozen BK271.out 3
     go_upto_region 6 with (first | (go_at_call 25; (with_reducible refine (pointillistlaw16_cuts.calls a0_0 a0_1 a0_2 a0_3 (wrap64 (a1)) 999 t274 _ A15.out).mono ?_); rintro e w18 ⟨v275, rfl, ho0, hb⟩; have n0_ := Aside0.mk (Kd.R_lower (Kd.R_newB ho0 (g := gb271) (o := .cells #[.int .i64 a0_0, .int .i64 a0_1, .int .i64 a0_2, .int .i64 a0_3] 32 (0, 0)) (by (with_reducible repeat (first | refine blk_drewN ?_ _ | refine blk_drew ?_ | refine blk_alloc ?_ _)); exact BK271.out)) (below_size (by repeat (first | (with_reducible first | exact HB.out | apply below_alloc | apply pw_below_drewN | apply below_drew1 | refine below_set ?_ GE271.out) | exact HB.out)))); have n1_ := Aside0.mk (blk_below (g := gb271) (o := .cells #[.int .i64 a0_0, .int .i64 a0_1, .int .i64 a0_2, .int .i64 a0_3] 32 (0, 0)) (by (with_reducible repeat (first | refine blk_drewN ?_ _ | refine blk_drew ?_ | refine blk_alloc ?_ _)); exact BK271.out) hb); have n2_ := Aside0.mk (below_step (by repeat (first | (with_reducible first | exact HB.out | apply below_alloc | apply pw_below_drewN | apply below_drew1 | refine below_set ?_ GE271.out) | exact HB.out)) hb); clear BK271; clear HB; have HO276 := n0_; have BK271 := n1_; have HB := n2_; clear n0_ n1_ n2_; (try clear hb); (try clear hb2); (try clear hk); (try clear hi); (try clear ho0)))
     repeat (go_quiet (first | (go_at_call 25; (with_reducible refine (pointillistlaw16_cuts.calls a0_0 a0_1 a0_2 a0_3 (wrap64 (a1)) 999 t274 _ A15.out).mono ?_); rintro e w18 ⟨v275, rfl, ho0, hb⟩; have n0_ := Aside0.mk (Kd.R_lower (Kd.R_newB ho0 (g := gb271) (o := .cells #[.int .i64 a0_0, .int .i64 a0_1, .int .i64 a0_2, .int .i64 a0_3] 32 (0, 0)) (by (with_reducible repeat (first | refine blk_drewN ?_ _ | refine blk_drew ?_ | refine blk_alloc ?_ _)); exact BK271.out)) (below_size (by repeat (first | (with_reducible first | exact HB.out | apply below_alloc | apply pw_below_drewN | apply below_drew1 | refine below_set ?_ GE271.out) | exact HB.out)))); have n1_ := Aside0.mk (blk_below (g := gb271) (o := .cells #[.int .i64 a0_0, .int .i64 a0_1, .int .i64 a0_2, .int .i64 a0_3] 32 (0, 0)) (by (with_reducible repeat (first | refine blk_drewN ?_ _ | refine blk_drew ?_ | refine blk_alloc ?_ _)); exact BK271.out) hb); have n2_ := Aside0.mk (below_step (by repeat (first | (with_reducible first | exact HB.out | apply below_alloc | apply pw_below_drewN | apply below_drew1 | refine below_set ?_ GE271.out) | exact HB.out)) hb); clear BK271; clear HB; have HO276 := n0_; have BK271 := n1_; have HB := n2_; clear n0_ n1_ n2_; (try clear hb); (try clear hb2); (try clear hk); (try clear hi); (try clear ho0))); go_upto_region 6 with (first | (go_at_call 25; (with_reducible refine (pointillistlaw16_cuts.calls a0_0 a0_1 a0_2 a0_3 (wrap64 (a1)) 999 t274 _ A15.out).mono ?_); rintro e w18 ⟨v275, rfl, ho0, hb⟩; have n0_ := Aside0.mk (Kd.R_lower (Kd.R_newB ho0 (g := gb271) (o := .cells #[.int .i64 a0_0, .int .i64 a0_1, .int .i64 a0_2, .int .i64 a0_3] 32 (0, 0)) (by (with_reducible repeat (first | refine blk_drewN ?_ _ | refine blk_drew ?_ | refine blk_alloc ?_ _)); exact BK271.out)) (below_size (by repeat (first | (with_reducible first | exact HB.out | apply below_alloc | apply pw_below_drewN | apply below_drew1 | refine below_set ?_ GE271.out) | exact HB.out)))); have n1_ := Aside0.mk (blk_below (g := gb271) (o := .cells #[.int .i64 a0_0, .int .i64 a0_1, .int .i64 a0_2, .int .i64 a0_3] 32 (0, 0)) (by (with_reducible repeat (first | refine blk_drewN ?_ _ | refine blk_drew ?_ | refine blk_alloc ?_ _)); exact BK271.out) hb); have n2_ := Aside0.mk (below_step (by repeat (first | (with_reducible first | exact HB.out | apply below_alloc | apply pw_below_drewN | apply below_drew1 | refine below_set ?_ GE271.out) | exact HB.out)) hb); clear BK271; clear HB; have HO276 := n0_; have BK271 := n1_; have HB := n2_; clear n0_ n1_ n2_; (try clear hb); (try clear hb2); (try clear hk); (try clear hi); (try clear ho0))))
     (try simp only [Act.put, List.setIfInBounds_toArray, List.set_cons_zero, List.set_cons_succ])
     go_cut [65] (fun v65 wc => ∃ (kq : Nat) (x65_15 : Bool), v65 = .bool x65_15 ∧ Aside0 (pointillistlaw16_CellJoins.j1 kq t274 x65_15 a0_0 a0_1 a0_2 a0_3 = some r) ∧ Aside0 (kq ≤ kj4) ∧ Aside0 (Kd.R k32 32 wc w.heap.size (fun k_ => k_ ≠ gb271) v275 t274) ∧ Aside0 (wc.heap[gb271]? = some (.cells #[.int .i64 a0_0, .int .i64 a0_1, .int .i64 a0_2, .int .i64 a0_3] 32 (0, 0))) ∧ Aside0 (Below w.heap.size w wc))
     case first =>
      have H := HC16.out
      clear HC16
      by_cases c19 : (t274.length : Int) = 0
      ·rw [if_pos c19] at H
       have c19b0 : ((t274.length : Int) == 0) = true := beq_iff_eq.mpr c19
       have c19b1 : ((t274.length : Int) != 0) = false := bne_eq_false_iff_eq.mpr c19
       clear c19
       (first | rw [c19b0] | (simp only [i64_w, i32_w]; rw [c19b0]) | skip)
       as_aux_lemma =>
        have H' := Aside0.mk H
        clear H
        obtain ⟨Ao20, co20, eo20⟩ := Kd.R_slice HO276.out
        subst eo20
        go_wp2
        repeat (go_quiet (fail); try go_wp2)
        go_meet
        case rel => exact ⟨_, (true), (by first | rfl | (simp; done) | (simp [*]; done)), H', ⟨by have := HJ4.out; first | omega | exact Nat.le_refl _⟩, ⟨by (with_reducible repeat (first | apply Kd.R_alloc | apply Kd.R_drewN | apply Kd.R_drew)); exact Kd.R_mono HO276.out (fun _ hk => hk.2)⟩, ⟨by (with_reducible repeat (first | refine blk_drewN ?_ _ | refine blk_drew ?_ | refine blk_alloc ?_ _)); exact BK271.out⟩, ⟨by repeat (first | (with_reducible first | exact HB.out | apply below_alloc | apply pw_below_drewN | apply below_drew1 | refine below_set ?_ GE271.out) | exact HB.out)⟩⟩
      ·rw [if_neg c19] at H
       have c19b0 : ((t274.length : Int) == 0) = false := beq_eq_false_iff_ne.mpr c19
       have c19b1 : ((t274.length : Int) != 0) = true := bne_iff_ne.mpr c19
       have c19b2 : ¬ (t274 = []) := fun h_ => c19 (by rw [h_]; rfl)
       (first | rw [c19b0] | (simp only [i64_w, i32_w]; rw [c19b0]) | skip)
       by_cases c21 : 0 < (t274.length : Int)
       ·rw [if_pos c21] at H
        have c21b0 : decide (0 < (t274.length : Int)) = true := decide_eq_true c21
        have c21b1 : decide (0 < t274.length) = true := decide_eq_true (by omega)
        clear c21
        by_cases c22 : ((rd_T32 t274 0).f0) = a0_0
        ·rw [if_pos c22] at H
         have c22b0 : (((rd_T32 t274 0).f0) == a0_0) = true := beq_iff_eq.mpr c22
         have c22b1 : (((rd_T32 t274 0).f0) != a0_0) = false := bne_eq_false_iff_eq.mpr c22
         clear c22
         by_cases c23 : ((rd_T32 t274 0).f1) = a0_1
         ·rw [if_pos c23] at H
          have c23b0 : (((rd_T32 t274 0).f1) == a0_1) = true := beq_iff_eq.mpr c23
          have c23b1 : (((rd_T32 t274 0).f1) != a0_1) = false := bne_eq_false_iff_eq.mpr c23
          clear c23
          obtain ⟨ji24, hji24⟩ : ∃ j_ : Int, (wrap64 ((t274.length : Int) - 1)) = j_ := ⟨_, rfl⟩
          replace H : (if 0 ≤ (ji24) then (if (ji24) < (t274.length : Int) then (if ((rd_T32 t274 (ji24)).f2) = a0_2 then (pointillistlaw16_CellJoins.j1 kj4 t274 (((rd_T32 t274 (ji24)).f3) != a0_3) a0_0 a0_1 a0_2 a0_3) else (pointillistlaw16_CellJoins.j1 kj4 t274 true a0_0 a0_1 a0_2 a0_3)) else (none)) else (none)) = some r := by first | (rw [hji24] at H; exact H) | (simp only [hji24] at H ⊢; exact H)
          have hji24w : (IntKind.i64.wrap ((t274.length : Int) - 1)) = ji24 := (i64_w _).trans hji24
          by_cases c25 : 0 ≤ (ji24)
          ·rw [if_pos c25] at H
           have c25b0 : decide (0 ≤ (ji24)) = true := decide_eq_true c25
           clear c25
           by_cases c26 : (ji24) < (t274.length : Int)
           ·rw [if_pos c26] at H
            have c26b0 : decide ((ji24) < (t274.length : Int)) = true := decide_eq_true c26
            clear c26
            by_cases c27 : ((rd_T32 t274 (ji24)).f2) = a0_2
            ·rw [if_pos c27] at H
             have c27b0 : (((rd_T32 t274 (ji24)).f2) == a0_2) = true := beq_iff_eq.mpr c27
             have c27b1 : (((rd_T32 t274 (ji24)).f2) != a0_2) = false := bne_eq_false_iff_eq.mpr c27
             clear c27
             as_aux_lemma =>
              have H' := Aside0.mk H
              clear H
              obtain ⟨Ao28, co28, eo28⟩ := Kd.R_slice HO276.out
              subst eo28
              have p277 : 0 ≤ (0 : Int) := (by omega)
              have q277 : 0 < (t274.length : Int) := of_decide_eq_true (by first | (with_reducible assumption) | assumption)
              obtain ⟨ad277, e277, hx277_0, hx277_1, hx277_2, hx277_3⟩ := at_T32 (Kd.R_reads' HO276.out).2.2 0 p277 q277
              cases e277
              have qi277 : (0 < t274.length) = True := eq_true (by omega)
              (try rw [show ((0 : Int)).toNat = 0 from rfl] at hx277_0)
              (try rw [show 0 * 4 = 0 from rfl] at hx277_0)
              (try rw [Addr.add_zero'] at hx277_0)
              (try rw [show ((0 : Int)).toNat = 0 from rfl] at hx277_1)
              (try rw [show 0 * 4 = 0 from rfl] at hx277_1)
              (try rw [Addr.add_zero'] at hx277_1)
              (try rw [show ((0 : Int)).toNat = 0 from rfl] at hx277_2)
              (try rw [show 0 * 4 = 0 from rfl] at hx277_2)
              (try rw [Addr.add_zero'] at hx277_2)
              (try rw [show ((0 : Int)).toNat = 0 from rfl] at hx277_3)
              (try rw [show 0 * 4 = 0 from rfl] at hx277_3)
              (try rw [Addr.add_zero'] at hx277_3)
              replace p277 := eq_true p277
              replace q277 := eq_true q277
              have hcz29_0 : w18.cell? ⟨gb271, 0, none⟩ = some (.int .i64 a0_0) := (blk_cell BK271.out 0).trans rfl
              have hcz29_1 : w18.cell? ⟨gb271, 1, none⟩ = some (.int .i64 a0_1) := (blk_cell BK271.out 1).trans rfl
              have hcz29_2 : w18.cell? ⟨gb271, 2, none⟩ = some (.int .i64 a0_2) := (blk_cell BK271.out 2).trans rfl
              have hcz29_3 : w18.cell? ⟨gb271, 3, none⟩ = some (.int .i64 a0_3) := (blk_cell BK271.out 3).trans rfl
              have hfz29_0 := blk_frozen BK271.out 0
              have hfz29_1 := blk_frozen BK271.out 1
              have hfz29_2 := blk_frozen BK271.out 2
              have hfz29_3 := blk_frozen BK271.out 3
              have p278 : 0 ≤ (0 : Int) := (by omega)
              have q278 : 0 < (t274.length : Int) := of_decide_eq_true (by first | (with_reducible assumption) | assumption)
              obtain ⟨ad278, e278, hx278_0, hx278_1, hx278_2, hx278_3⟩ := at_T32 (Kd.R_reads' HO276.out).2.2 0 p278 q278
              obtain rfl : ad277 = ad278 := (by injection e278)
              have qi278 : (0 < t274.length) = True := eq_true (by omega)
              (try rw [show ((0 : Int)).toNat = 0 from rfl] at hx278_0)
              (try rw [show 0 * 4 = 0 from rfl] at hx278_0)
              (try rw [Addr.add_zero'] at hx278_0)
              (try rw [show ((0 : Int)).toNat = 0 from rfl] at hx278_1)
              (try rw [show 0 * 4 = 0 from rfl] at hx278_1)
              (try rw [Addr.add_zero'] at hx278_1)
              (try rw [show ((0 : Int)).toNat = 0 from rfl] at hx278_2)
              (try rw [show 0 * 4 = 0 from rfl] at hx278_2)
              (try rw [Addr.add_zero'] at hx278_2)
              (try rw [show ((0 : Int)).toNat = 0 from rfl] at hx278_3)
              (try rw [show 0 * 4 = 0 from rfl] at hx278_3)
              (try rw [Addr.add_zero'] at hx278_3)
              replace p278 := eq_true p278
              replace q278 := eq_true q278
              have p279 : 0 ≤ ((ji24) : Int) := of_decide_eq_true (by first | (with_reducible assumption) | assumption)
              have q279 : (ji24) < (t274.length : Int) := of_decide_eq_true (by first | (with_reducible assumption) | assumption)
              obtain ⟨ad279, e279, hx279_0, hx279_1, hx279_2, hx279_3⟩ := at_T32 (Kd.R_reads' HO276.out).2.2 (ji24) p279 q279
              obtain rfl : ad277 = ad279 := (by injection e279)
              replace p279 := eq_true p279
              replace q279 := eq_true q279
              have p280 : 0 ≤ ((ji24) : Int) := of_decide_eq_true (by first | (with_reducible assumption) | assumption)
              have q280 : (ji24) < (t274.length : Int) := of_decide_eq_true (by first | (with_reducible assumption) | assumption)
              obtain ⟨ad280, e280, hx280_0, hx280_1, hx280_2, hx280_3⟩ := at_T32 (Kd.R_reads' HO276.out).2.2 (ji24) p280 q280
              obtain rfl : ad277 = ad280 := (by injection e280)
              replace p280 := eq_true p280
              replace q280 := eq_true q280
              go_wp2
              repeat (go_quiet (fail); try go_wp2)
              go_meet
              case rel => exact ⟨_, ((((rd_T32 t274 (ji24)).f3) != a0_3)), (by first | rfl | (simp; done) | (simp only [← hji24] <;> (first | rfl | simp)) | (simp [*]; done)), H', ⟨by have := HJ4.out; first | omega | exact Nat.le_refl _⟩, ⟨by (with_reducible repeat (first | apply Kd.R_alloc | apply Kd.R_drewN | apply Kd.R_drew)); exact Kd.R_mono HO276.out (fun _ hk => hk.2)⟩, ⟨by (with_reducible repeat (first | refine blk_drewN ?_ _ | refine blk_drew ?_ | refine blk_alloc ?_ _)); exact BK271.out⟩, ⟨by repeat (first | (with_reducible first | exact HB.out | apply below_alloc | apply pw_below_drewN | apply below_drew1 | refine below_set ?_ GE271.out) | exact HB.out)⟩⟩
            ·rw [if_neg c27] at H
             have c27b0 : (((rd_T32 t274 (ji24)).f2) == a0_2) = false := beq_eq_false_iff_ne.mpr c27
             have c27b1 : (((rd_T32 t274 (ji24)).f2) != a0_2) = true := bne_iff_ne.mpr c27
             as_aux_lemma =>
              have H' := Aside0.mk H
              clear H
              obtain ⟨Ao30, co30, eo30⟩ := Kd.R_slice HO276.out
              subst eo30
              have p277 : 0 ≤ (0 : Int) := (by omega)
              have q277 : 0 < (t274.length : Int) := of_decide_eq_true (by first | (with_reducible assumption) | assumption)
              obtain ⟨ad277, e277, hx277_0, hx277_1, hx277_2, hx277_3⟩ := at_T32 (Kd.R_reads' HO276.out).2.2 0 p277 q277
              cases e277
              have qi277 : (0 < t274.length) = True := eq_true (by omega)
              (try rw [show ((0 : Int)).toNat = 0 from rfl] at hx277_0)
              (try rw [show 0 * 4 = 0 from rfl] at hx277_0)
              (try rw [Addr.add_zero'] at hx277_0)
              (try rw [show ((0 : Int)).toNat = 0 from rfl] at hx277_1)
              (try rw [show 0 * 4 = 0 from rfl] at hx277_1)
              (try rw [Addr.add_zero'] at hx277_1)
              (try rw [show ((0 : Int)).toNat = 0 from rfl] at hx277_2)
              (try rw [show 0 * 4 = 0 from rfl] at hx277_2)
              (try rw [Addr.add_zero'] at hx277_2)
              (try rw [show ((0 : Int)).toNat = 0 from rfl] at hx277_3)
              (try rw [show 0 * 4 = 0 from rfl] at hx277_3)
              (try rw [Addr.add_zero'] at hx277_3)
              replace p277 := eq_true p277
              replace q277 := eq_true q277
              have hcz31_0 : w18.cell? ⟨gb271, 0, none⟩ = some (.int .i64 a0_0) := (blk_cell BK271.out 0).trans rfl
              have hcz31_1 : w18.cell? ⟨gb271, 1, none⟩ = some (.int .i64 a0_1) := (blk_cell BK271.out 1).trans rfl
              have hcz31_2 : w18.cell? ⟨gb271, 2, none⟩ = some (.int .i64 a0_2) := (blk_cell BK271.out 2).trans rfl
              have hcz31_3 : w18.cell? ⟨gb271, 3, none⟩ = some (.int .i64 a0_3) := (blk_cell BK271.out 3).trans rfl
              have hfz31_0 := blk_frozen BK271.out 0
              have hfz31_1 := blk_frozen BK271.out 1
              have hfz31_2 := blk_frozen BK271.out 2
              have hfz31_3 := blk_frozen BK271.out 3
              have p278 : 0 ≤ (0 : Int) := (by omega)
              have q278 : 0 < (t274.length : Int) := of_decide_eq_true (by first | (with_reducible assumption) | assumption)
              obtain ⟨ad278, e278, hx278_0, hx278_1, hx278_2, hx278_3⟩ := at_T32 (Kd.R_reads' HO276.out).2.2 0 p278 q278
              obtain rfl : ad277 = ad278 := (by injection e278)
              have qi278 : (0 < t274.length) = True := eq_true (by omega)
              (try rw [show ((0 : Int)).toNat = 0 from rfl] at hx278_0)
              (try rw [show 0 * 4 = 0 from rfl] at hx278_0)
              (try rw [Addr.add_zero'] at hx278_0)
              (try rw [show ((0 : Int)).toNat = 0 from rfl] at hx278_1)
              (try rw [show 0 * 4 = 0 from rfl] at hx278_1)
              (try rw [Addr.add_zero'] at hx278_1)
              (try rw [show ((0 : Int)).toNat = 0 from rfl] at hx278_2)
              (try rw [show 0 * 4 = 0 from rfl] at hx278_2)
              (try rw [Addr.add_zero'] at hx278_2)
              (try rw [show ((0 : Int)).toNat = 0 from rfl] at hx278_3)
              (try rw [show 0 * 4 = 0 from rfl] at hx278_3)
              (try rw [Addr.add_zero'] at hx278_3)
              replace p278 := eq_true p278
              replace q278 := eq_true q278
              have p279 : 0 ≤ ((ji24) : Int) := of_decide_eq_true (by first | (with_reducible assumption) | assumption)
              have q279 : (ji24) < (t274.length : Int) := of_decide_eq_true (by first | (with_reducible assumption) | assumption)
              obtain ⟨ad279, e279, hx279_0, hx279_1, hx279_2, hx279_3⟩ := at_T32 (Kd.R_reads' HO276.out).2.2 (ji24) p279 q279
              obtain rfl : ad277 = ad279 := (by injection e279)
              replace p279 := eq_true p279
              replace q279 := eq_true q279
              go_wp2
              repeat (go_quiet (fail); try go_wp2)
              go_meet
              case rel => exact ⟨_, (true), (by first | rfl | (simp; done) | (simp [*]; done)), H', ⟨by have := HJ4.out; first | omega | exact Nat.le_refl _⟩, ⟨by (with_reducible repeat (first | apply Kd.R_alloc | apply Kd.R_drewN | apply Kd.R_drew)); exact Kd.R_mono HO276.out (fun _ hk => hk.2)⟩, ⟨by (with_reducible repeat (first | refine blk_drewN ?_ _ | refine blk_drew ?_ | refine blk_alloc ?_ _)); exact BK271.out⟩, ⟨by repeat (first | (with_reducible first | exact HB.out | apply below_alloc | apply pw_below_drewN | apply below_drew1 | refine below_set ?_ GE271.out) | exact HB.out)⟩⟩
           ·rw [if_neg c26] at H
            exact absurd H (by simp)
          ·rw [if_neg c25] at H
           exact absurd H (by simp)
         ·rw [if_neg c23] at H
          have c23b0 : (((rd_T32 t274 0).f1) == a0_1) = false := beq_eq_false_iff_ne.mpr c23
          have c23b1 : (((rd_T32 t274 0).f1) != a0_1) = true := bne_iff_ne.mpr c23
          as_aux_lemma =>
           have H' := Aside0.mk H
           clear H
           obtain ⟨Ao32, co32, eo32⟩ := Kd.R_slice HO276.out
           subst eo32
           have p277 : 0 ≤ (0 : Int) := (by omega)
           have q277 : 0 < (t274.length : Int) := of_decide_eq_true (by first | (with_reducible assumption) | assumption)
           obtain ⟨ad277, e277, hx277_0, hx277_1, hx277_2, hx277_3⟩ := at_T32 (Kd.R_reads' HO276.out).2.2 0 p277 q277
           cases e277
           have qi277 : (0 < t274.length) = True := eq_true (by omega)
           (try rw [show ((0 : Int)).toNat = 0 from rfl] at hx277_0)
           (try rw [show 0 * 4 = 0 from rfl] at hx277_0)
           (try rw [Addr.add_zero'] at hx277_0)
           (try rw [show ((0 : Int)).toNat = 0 from rfl] at hx277_1)
           (try rw [show 0 * 4 = 0 from rfl] at hx277_1)
           (try rw [Addr.add_zero'] at hx277_1)
           (try rw [show ((0 : Int)).toNat = 0 from rfl] at hx277_2)
           (try rw [show 0 * 4 = 0 from rfl] at hx277_2)
           (try rw [Addr.add_zero'] at hx277_2)
           (try rw [show ((0 : Int)).toNat = 0 from rfl] at hx277_3)
           (try rw [show 0 * 4 = 0 from rfl] at hx277_3)
           (try rw [Addr.add_zero'] at hx277_3)
           replace p277 := eq_true p277
           replace q277 := eq_true q277
           have hcz33_0 : w18.cell? ⟨gb271, 0, none⟩ = some (.int .i64 a0_0) := (blk_cell BK271.out 0).trans rfl
           have hcz33_1 : w18.cell? ⟨gb271, 1, none⟩ = some (.int .i64 a0_1) := (blk_cell BK271.out 1).trans rfl
           have hcz33_2 : w18.cell? ⟨gb271, 2, none⟩ = some (.int .i64 a0_2) := (blk_cell BK271.out 2).trans rfl
           have hcz33_3 : w18.cell? ⟨gb271, 3, none⟩ = some (.int .i64 a0_3) := (blk_cell BK271.out 3).trans rfl
           have hfz33_0 := blk_frozen BK271.out 0
           have hfz33_1 := blk_frozen BK271.out 1
           have hfz33_2 := blk_frozen BK271.out 2
           have hfz33_3 := blk_frozen BK271.out 3
           have p278 : 0 ≤ (0 : Int) := (by omega)
           have q278 : 0 < (t274.length : Int) := of_decide_eq_true (by first | (with_reducible assumption) | assumption)
           obtain ⟨ad278, e278, hx278_0, hx278_1, hx278_2, hx278_3⟩ := at_T32 (Kd.R_reads' HO276.out).2.2 0 p278 q278
           obtain rfl : ad277 = ad278 := (by injection e278)
           have qi278 : (0 < t274.length) = True := eq_true (by omega)
           (try rw [show ((0 : Int)).toNat = 0 from rfl] at hx278_0)
           (try rw [show 0 * 4 = 0 from rfl] at hx278_0)
           (try rw [Addr.add_zero'] at hx278_0)
           (try rw [show ((0 : Int)).toNat = 0 from rfl] at hx278_1)
           (try rw [show 0 * 4 = 0 from rfl] at hx278_1)
           (try rw [Addr.add_zero'] at hx278_1)
           (try rw [show ((0 : Int)).toNat = 0 from rfl] at hx278_2)
           (try rw [show 0 * 4 = 0 from rfl] at hx278_2)
           (try rw [Addr.add_zero'] at hx278_2)
           (try rw [show ((0 : Int)).toNat = 0 from rfl] at hx278_3)
           (try rw [show 0 * 4 = 0 from rfl] at hx278_3)
           (try rw [Addr.add_zero'] at hx278_3)
           replace p278 := eq_true p278
           replace q278 := eq_true q278
           go_wp2
           repeat (go_quiet (fail); try go_wp2)
           go_meet
           case rel => exact ⟨_, (true), (by first | rfl | (simp; done) | (simp [*]; done)), H', ⟨by have := HJ4.out; first | omega | exact Nat.le_refl _⟩, ⟨by (with_reducible repeat (first | apply Kd.R_alloc | apply Kd.R_drewN | apply Kd.R_drew)); exact Kd.R_mono HO276.out (fun _ hk => hk.2)⟩, ⟨by (with_reducible repeat (first | refine blk_drewN ?_ _ | refine blk_drew ?_ | refine blk_alloc ?_ _)); exact BK271.out⟩, ⟨by repeat (first | (with_reducible first | exact HB.out | apply below_alloc | apply pw_below_drewN | apply below_drew1 | refine below_set ?_ GE271.out) | exact HB.out)⟩⟩
        ·rw [if_neg c22] at H
         have c22b0 : (((rd_T32 t274 0).f0) == a0_0) = false := beq_eq_false_iff_ne.mpr c22
         have c22b1 : (((rd_T32 t274 0).f0) != a0_0) = true := bne_iff_ne.mpr c22
         as_aux_lemma =>
          have H' := Aside0.mk H
          clear H
          obtain ⟨Ao34, co34, eo34⟩ := Kd.R_slice HO276.out
          subst eo34
          have p277 : 0 ≤ (0 : Int) := (by omega)
          have q277 : 0 < (t274.length : Int) := of_decide_eq_true (by first | (with_reducible assumption) | assumption)
          obtain ⟨ad277, e277, hx277_0, hx277_1, hx277_2, hx277_3⟩ := at_T32 (Kd.R_reads' HO276.out).2.2 0 p277 q277
          cases e277
          have qi277 : (0 < t274.length) = True := eq_true (by omega)
          (try rw [show ((0 : Int)).toNat = 0 from rfl] at hx277_0)
          (try rw [show 0 * 4 = 0 from rfl] at hx277_0)
          (try rw [Addr.add_zero'] at hx277_0)
          (try rw [show ((0 : Int)).toNat = 0 from rfl] at hx277_1)
          (try rw [show 0 * 4 = 0 from rfl] at hx277_1)
          (try rw [Addr.add_zero'] at hx277_1)
          (try rw [show ((0 : Int)).toNat = 0 from rfl] at hx277_2)
          (try rw [show 0 * 4 = 0 from rfl] at hx277_2)
          (try rw [Addr.add_zero'] at hx277_2)
          (try rw [show ((0 : Int)).toNat = 0 from rfl] at hx277_3)
          (try rw [show 0 * 4 = 0 from rfl] at hx277_3)
          (try rw [Addr.add_zero'] at hx277_3)
          replace p277 := eq_true p277
          replace q277 := eq_true q277
          have hcz35_0 : w18.cell? ⟨gb271, 0, none⟩ = some (.int .i64 a0_0) := (blk_cell BK271.out 0).trans rfl
          have hcz35_1 : w18.cell? ⟨gb271, 1, none⟩ = some (.int .i64 a0_1) := (blk_cell BK271.out 1).trans rfl
          have hcz35_2 : w18.cell? ⟨gb271, 2, none⟩ = some (.int .i64 a0_2) := (blk_cell BK271.out 2).trans rfl
          have hcz35_3 : w18.cell? ⟨gb271, 3, none⟩ = some (.int .i64 a0_3) := (blk_cell BK271.out 3).trans rfl
          have hfz35_0 := blk_frozen BK271.out 0
          have hfz35_1 := blk_frozen BK271.out 1
          have hfz35_2 := blk_frozen BK271.out 2
          have hfz35_3 := blk_frozen BK271.out 3
          go_wp2
          repeat (go_quiet (fail); try go_wp2)
          go_meet
          case rel => exact ⟨_, (true), (by first | rfl | (simp; done) | (simp [*]; done)), H', ⟨by have := HJ4.out; first | omega | exact Nat.le_refl _⟩, ⟨by (with_reducible repeat (first | apply Kd.R_alloc | apply Kd.R_drewN | apply Kd.R_drew)); exact Kd.R_mono HO276.out (fun _ hk => hk.2)⟩, ⟨by (with_reducible repeat (first | refine blk_drewN ?_ _ | refine blk_drew ?_ | refine blk_alloc ?_ _)); exact BK271.out⟩, ⟨by repeat (first | (with_reducible first | exact HB.out | apply below_alloc | apply pw_below_drewN | apply below_drew1 | refine below_set ?_ GE271.out) | exact HB.out)⟩⟩
       ·rw [if_neg c21] at H
        exact absurd H (by simp)
     case rest =>
      clear HC16
      try clear c1
      try clear c2
      try clear p2
      try clear q2
      try clear hx2
      try clear qi2
      try clear c4
      try clear p6
      try clear c9
      try clear c10
      try clear c14
      try clear c19
      try clear c19b0
      try clear c19b1
      try clear c19b2
      try clear c21
      try clear c21b0
      try clear c21b1
      try clear c22
      try clear c22b0
      try clear c22b1
      try clear c23
      try clear c23b0
      try clear c23b1
      try clear c25
      try clear c25b0
      try clear c26
      try clear c26b0
      try clear c27
      try clear c27b0
      try clear c27b1
      try clear p27
      try clear q27
      try clear hx27
      try clear qi27
      try clear p28
      try clear q28
      try clear hx28
      try clear hcz10_0
      try clear hcz10_1
      try clear hcz10_2
      try clear hcz10_3
      try clear hcz12_0
      try clear hcz12_1
      try clear hcz12_2
      try clear hcz12_3
      try clear hcz17_0
      try clear hcz17_1
      try clear hcz17_2
      try clear hcz17_3
      try clear hcz29_0
      try clear hcz29_1
      try clear hcz29_2
      try clear hcz29_3
      try clear hcz31_0
      try clear hcz31_1
      try clear hcz31_2
      try clear hcz31_3
      try clear hcz33_0
      try clear hcz33_1
      try clear hcz33_2
      try clear hcz33_3
      try clear hcz35_0
      try clear hcz35_1
      try clear hcz35_2
      try clear hcz35_3
      try clear hfz10_0
      try clear hfz10_1
      try clear hfz10_2
      try clear hfz10_3
      try clear hfz12_0
      try clear hfz12_1
      try clear hfz12_2
      try clear hfz12_3
      try clear hfz17_0
      try clear hfz17_1
      try clear hfz17_2
      try clear hfz17_3
      try clear hfz29_0
      try clear hfz29_1
      try clear hfz29_2
      try clear hfz29_3
      try clear hfz31_0
      try clear hfz31_1
      try clear hfz31_2
      try clear hfz31_3
      try clear hfz33_0
      try clear hfz33_1
      try clear hfz33_2
      try clear hfz33_3
      try clear hfz35_0
      try clear hfz35_1
      try clear hfz35_2
      try clear hfz35_3
      try clear hx277_0
      try clear hx277_1
      try clear hx277_2
      try clear hx277_3
      try clear hx278_0
      try clear hx278_1
      try clear hx278_2
      try clear hx278_3
      try clear hx279_0
      try clear hx279_1
      try clear hx279_2
      try clear hx279_3
      try clear hx280_0
      try clear hx280_1
      try clear hx280_2
      try clear hx280_3
      try clear p2
      try clear p277
      try clear p278
      try clear p279
      try clear p280
      try clear q277
      try clear q278
      try clear q279
      try clear q280
      obtain ⟨kq, x65_15, rfl, HA, HJ15, HO_5, BK271, HB⟩ := hcut
      cases kq with
      | zero => exact absurd HA.out (by simp [pointillistlaw16_CellJoins.j1])
      | succ kj15 =>
       have H := HA.out
       clear HA
       simp only [pointillistlaw16_CellJoins.j1] at H
       by_cases c36 : x65_15 = true
       ·subst c36
        have H1 : (some false) = some r := by rw [if_pos rfl] at H; exact H
        clear H
        have H := H1
        clear H1
        as_aux_lemma =>
         obtain rfl := Option.some.inj H
         go_wp2
         repeat (go_quiet (fail); try go_wp2)
         go_ret
         exact ⟨by first | rfl | (simp [errW_none, errW_some] <;> rfl) | (simp [*, errW_none, errW_some] <;> rfl), by repeat (first | (with_reducible first | exact HB.out | apply below_alloc | apply pw_below_drewN | apply below_drew1 | refine below_set ?_ GE271.out) | exact HB.out)⟩
       ·replace c36 := Bool.eq_false_iff.mpr c36
        subst c36
        have H1 : (pointillistlaw16_CellJoins.l0 kj15 t274 t274 (t274.length : Int) 0 a0_0 a0_1 a0_2 a0_3) = some r := by rw [if_neg (show ¬ (false = true) by decide)] at H; exact H
        clear H
        have H := H1
        clear H1
        have H' := Aside0.mk H
        clear H
        obtain ⟨Ao37, co37, eo37⟩ := Kd.R_slice HO_5.out
        subst eo37
        go_wp2
        repeat (go_quiet (fail); try go_wp2)
        go_loopg [68] kj15 (fun kq v68 w' => ∃ (x68_3 : Int), v68 = .int .i64 x68_3 ∧ Aside0 (pointillistlaw16_CellJoins.l0 kq t274 t274 (t274.length : Int) x68_3 a0_0 a0_1 a0_2 a0_3 = some r) ∧ Aside0 (kq ≤ kj15) ∧ Aside0 (Kd.R k32 32 w' w.heap.size (fun k_ => k_ ≠ gb271) (.slice Ao37 t274.length co37) t274) ∧ Aside0 (Kd.R k32 32 w' w.heap.size (fun k_ => k_ ≠ gb271) (.slice Ao37 t274.length co37) t274) ∧ Aside0 (w'.heap[gb271]? = some (.cells #[.int .i64 a0_0, .int .i64 a0_1, .int .i64 a0_2, .int .i64 a0_3] 32 (0, 0))) ∧ Aside0 (Below w.heap.size w w'))
        case atStart => exact ⟨(0), (by first | rfl | (simp; done) | (simp [*]; done)), H', ⟨Nat.le_refl _⟩, ⟨by (with_reducible repeat (first | apply Kd.R_alloc | apply Kd.R_drewN | apply Kd.R_drew)); exact HO_5.out⟩, ⟨by (with_reducible repeat (first | apply Kd.R_alloc | apply Kd.R_drewN | apply Kd.R_drew)); exact HO_5.out⟩, ⟨by (with_reducible repeat (first | refine blk_drewN ?_ _ | refine blk_drew ?_ | refine blk_alloc ?_ _)); exact BK271.out⟩, ⟨by repeat (first | (with_reducible first | exact HB.out | apply below_alloc | apply pw_below_drewN | apply below_drew1 | refine below_set ?_ GE271.out) | exact HB.out)⟩⟩
        case round =>
         clear H'
         try clear c1
         try clear c2
         try clear p2
         try clear q2
         try clear hx2
         try clear qi2
         try clear c3
         try clear c4
         try clear p6
         try clear c9
         try clear c10
         try clear c14
         try clear c19
         try clear c19b0
         try clear c19b1
         try clear c19b2
         try clear c21
         try clear c21b0
         try clear c21b1
         try clear c22
         try clear c22b0
         try clear c22b1
         try clear c23
         try clear c23b0
         try clear c23b1
         try clear c25
         try clear c25b0
         try clear c26
         try clear c26b0
         try clear c27
         try clear c27b0
         try clear c27b1
         try clear p27
         try clear q27
         try clear hx27
         try clear qi27
         try clear p28
         try clear q28
         try clear hx28
         try clear c36
         try clear hcz10_0
         try clear hcz10_1
         try clear hcz10_2
         try clear hcz10_3
         try clear hcz12_0
         try clear hcz12_1
         try clear hcz12_2
         try clear hcz12_3
         try clear hcz17_0
         try clear hcz17_1
         try clear hcz17_2
         try clear hcz17_3
         try clear hcz29_0
         try clear hcz29_1
         try clear hcz29_2
         try clear hcz29_3
         try clear hcz31_0
         try clear hcz31_1
         try clear hcz31_2
         try clear hcz31_3
         try clear hcz33_0
         try clear hcz33_1
         try clear hcz33_2
         try clear hcz33_3
         try clear hcz35_0
         try clear hcz35_1
         try clear hcz35_2
         try clear hcz35_3
         try clear hfz10_0
         try clear hfz10_1
         try clear hfz10_2
         try clear hfz10_3
         try clear hfz12_0
         try clear hfz12_1
         try clear hfz12_2
         try clear hfz12_3
         try clear hfz17_0
         try clear hfz17_1
         try clear hfz17_2
         try clear hfz17_3
         try clear hfz29_0
         try clear hfz29_1
         try clear hfz29_2
         try clear hfz29_3
         try clear hfz31_0
         try clear hfz31_1
         try clear hfz31_2
         try clear hfz31_3
         try clear hfz33_0
         try clear hfz33_1
         try clear hfz33_2
         try clear hfz33_3
         try clear hfz35_0
         try clear hfz35_1
         try clear hfz35_2
         try clear hfz35_3
         try clear hx277_0
         try clear hx277_1
         try clear hx277_2
         try clear hx277_3
         try clear hx278_0
         try clear hx278_1
         try clear hx278_2
         try clear hx278_3
         try clear hx279_0
         try clear hx279_1
         try clear hx279_2
         try clear hx279_3
         try clear hx280_0
         try clear hx280_1
         try clear hx280_2
         try clear hx280_3
         try clear p2
         try clear p27
         try clear p277
         try clear p278
         try clear p279
         try clear p28
         try clear p280
         try clear p6
         try clear q2
         try clear q27
         try clear q277
         try clear q278
         try clear q279
         try clear q28
         try clear q280
         obtain ⟨x68_3, rfl, HA, HK3, HO_5, HO_66, BK271, HB⟩ := hrel
         cases gk with
         | zero => exact absurd HA.out (by simp [pointillistlaw16_CellJoins.l0])
         | succ k3 =>
          have H := HA.out
          clear HA
          simp only [pointillistlaw16_CellJoins.l0] at H
          by_cases c38 : x68_3 < (t274.length : Int)
          ·rw [if_pos c38] at H
           have c38b0 : decide (x68_3 < (t274.length : Int)) = true := decide_eq_true c38
           clear c38
           by_cases c39 : 0 ≤ x68_3
           ·rw [if_pos c39] at H
            have c39b0 : decide (0 ≤ x68_3) = true := decide_eq_true c39
            clear c39
            by_cases c40 : x68_3 < (t274.length : Int)
            ·rw [if_pos c40] at H
             have c40b0 : decide (x68_3 < (t274.length : Int)) = true := decide_eq_true c40
             clear c40
             have HC41 := Aside0.mk H
             clear H
             have p281 : 0 ≤ (x68_3 : Int) := of_decide_eq_true (by first | (with_reducible assumption) | assumption)
             have q281 : x68_3 < (t274.length : Int) := of_decide_eq_true (by first | (with_reducible assumption) | assumption)
             obtain ⟨ad281, e281, hx281_0, hx281_1, hx281_2, hx281_3⟩ := at_T32 (Kd.R_reads' HO_66.out).2.2 x68_3 p281 q281
             cases e281
             replace p281 := eq_true p281
             replace q281 := eq_true q281
             go_upto_region 11 with (first | ((with_reducible refine gate_dst (N := 7) rfl ?_); (try (refine gate_guard (by rfl) ?_; dsimp only)); refine box_event ?hg (N := 7) ?hd (cs := #[.int .i64 0, .int .i64 0, .int .i64 0, .int .i64 0]) (t := 32) ?hr ?_; (case hd => rfl); (case hg => rfl); (case hr => first | (go_simp; done) | (go_simp; rfl)); intro gb282 hg w42 hbox hb; have n0_ := Aside0.mk (Kd.R_below (Kd.R_elderB (by (with_reducible repeat (first | apply Kd.R_alloc | apply Kd.R_drewN | apply Kd.R_drew)); exact HO_5.out) gb282 (Nat.le_of_eq hg.symm)) hb); have n1_ := Aside0.mk (Kd.R_below (Kd.R_elderB (by (with_reducible repeat (first | apply Kd.R_alloc | apply Kd.R_drewN | apply Kd.R_drew)); exact HO_66.out) gb282 (Nat.le_of_eq hg.symm)) hb); have n2_ := Aside0.mk (blk_below (g := gb271) (o := .cells #[.int .i64 a0_0, .int .i64 a0_1, .int .i64 a0_2, .int .i64 a0_3] 32 (0, 0)) (by (with_reducible repeat (first | refine blk_drewN ?_ _ | refine blk_drew ?_ | refine blk_alloc ?_ _)); exact BK271.out) hb); have n3_ := Aside0.mk (below_step (by repeat (first | (with_reducible first | exact HB.out | apply below_alloc | apply pw_below_drewN | apply below_drew1 | refine below_set ?_ GE271.out) | exact HB.out)) hb); have n4_ := Aside0.mk (hbox); have n5_ := Aside0.mk ((by rw [hg]; exact (below_size (by repeat (first | (with_reducible first | exact HB.out | apply below_alloc | apply pw_below_drewN | apply below_drew1 | refine below_set ?_ GE271.out) | exact HB.out))) : w.heap.size ≤ gb282)); have n6_ := Aside0.mk ((by rw [hg]; exact (below_size (by repeat (first | (with_reducible first | exact HB.out | apply below_alloc | apply pw_below_drewN | apply below_drew1 | refine below_set ?_ GE271.out) | exact HB.out))) : w.heap.size ≤ gb282)); have n7_ := Aside0.mk ((by rw [hg]; exact Nat.ne_of_lt (blk_lt (g := gb271) (o := .cells #[.int .i64 a0_0, .int .i64 a0_1, .int .i64 a0_2, .int .i64 a0_3] 32 (0, 0)) (by (with_reducible repeat (first | refine blk_drewN ?_ _ | refine blk_drew ?_ | refine blk_alloc ?_ _)); exact BK271.out)) : gb271 ≠ gb282)); have n8_ := Aside0.mk ((by rw [hg]; exact Nat.ne_of_gt (blk_lt (g := gb271) (o := .cells #[.int .i64 a0_0, .int .i64 a0_1, .int .i64 a0_2, .int .i64 a0_3] 32 (0, 0)) (by (with_reducible repeat (first | refine blk_drewN ?_ _ | refine blk_drew ?_ | refine blk_alloc ?_ _)); exact BK271.out)) : gb282 ≠ gb271)); clear HO_5; clear HO_66; clear BK271; clear HB; have HO_5 := n0_; have HO_66 := n1_; have BK271 := n2_; have HB := n3_; have BK282 := n4_; have GW282 := n5_; have GE282 := n6_; have NB271_282 := n7_; have NB282_271 := n8_; clear n0_ n1_ n2_ n3_ n4_ n5_ n6_ n7_ n8_; clear hb hbox hg; have hnb43 := NB282_271.out; have hnc43 := NB271_282.out; have hcz44_0 : w42.cell? ⟨gb282, 0, none⟩ = some (.int .i64 0) := (blk_cell BK282.out 0).trans rfl; have hcz44_1 : w42.cell? ⟨gb282, 1, none⟩ = some (.int .i64 0) := (blk_cell BK282.out 1).trans rfl; have hcz44_2 : w42.cell? ⟨gb282, 2, none⟩ = some (.int .i64 0) := (blk_cell BK282.out 2).trans rfl; have hcz44_3 : w42.cell? ⟨gb282, 3, none⟩ = some (.int .i64 0) := (blk_cell BK282.out 3).trans rfl; have hfz44_0 := blk_frozen BK282.out 0; have hfz44_1 := blk_frozen BK282.out 1; have hfz44_2 := blk_frozen BK282.out 2; have hfz44_3 := blk_frozen BK282.out 3))
             repeat (go_quiet (first | ((with_reducible refine gate_dst (N := 7) rfl ?_); (try (refine gate_guard (by rfl) ?_; dsimp only)); refine box_event ?hg (N := 7) ?hd (cs := #[.int .i64 0, .int .i64 0, .int .i64 0, .int .i64 0]) (t := 32) ?hr ?_; (case hd => rfl); (case hg => rfl); (case hr => first | (go_simp; done) | (go_simp; rfl)); intro gb282 hg w42 hbox hb; have n0_ := Aside0.mk (Kd.R_below (Kd.R_elderB (by (with_reducible repeat (first | apply Kd.R_alloc | apply Kd.R_drewN | apply Kd.R_drew)); exact HO_5.out) gb282 (Nat.le_of_eq hg.symm)) hb); have n1_ := Aside0.mk (Kd.R_below (Kd.R_elderB (by (with_reducible repeat (first | apply Kd.R_alloc | apply Kd.R_drewN | apply Kd.R_drew)); exact HO_66.out) gb282 (Nat.le_of_eq hg.symm)) hb); have n2_ := Aside0.mk (blk_below (g := gb271) (o := .cells #[.int .i64 a0_0, .int .i64 a0_1, .int .i64 a0_2, .int .i64 a0_3] 32 (0, 0)) (by (with_reducible repeat (first | refine blk_drewN ?_ _ | refine blk_drew ?_ | refine blk_alloc ?_ _)); exact BK271.out) hb); have n3_ := Aside0.mk (below_step (by repeat (first | (with_reducible first | exact HB.out | apply below_alloc | apply pw_below_drewN | apply below_drew1 | refine below_set ?_ GE271.out) | exact HB.out)) hb); have n4_ := Aside0.mk (hbox); have n5_ := Aside0.mk ((by rw [hg]; exact (below_size (by repeat (first | (with_reducible first | exact HB.out | apply below_alloc | apply pw_below_drewN | apply below_drew1 | refine below_set ?_ GE271.out) | exact HB.out))) : w.heap.size ≤ gb282)); have n6_ := Aside0.mk ((by rw [hg]; exact (below_size (by repeat (first | (with_reducible first | exact HB.out | apply below_alloc | apply pw_below_drewN | apply below_drew1 | refine below_set ?_ GE271.out) | exact HB.out))) : w.heap.size ≤ gb282)); have n7_ := Aside0.mk ((by rw [hg]; exact Nat.ne_of_lt (blk_lt (g := gb271) (o := .cells #[.int .i64 a0_0, .int .i64 a0_1, .int .i64 a0_2, .int .i64 a0_3] 32 (0, 0)) (by (with_reducible repeat (first | refine blk_drewN ?_ _ | refine blk_drew ?_ | refine blk_alloc ?_ _)); exact BK271.out)) : gb271 ≠ gb282)); have n8_ := Aside0.mk ((by rw [hg]; exact Nat.ne_of_gt (blk_lt (g := gb271) (o := .cells #[.int .i64 a0_0, .int .i64 a0_1, .int .i64 a0_2, .int .i64 a0_3] 32 (0, 0)) (by (with_reducible repeat (first | refine blk_drewN ?_ _ | refine blk_drew ?_ | refine blk_alloc ?_ _)); exact BK271.out)) : gb282 ≠ gb271)); clear HO_5; clear HO_66; clear BK271; clear HB; have HO_5 := n0_; have HO_66 := n1_; have BK271 := n2_; have HB := n3_; have BK282 := n4_; have GW282 := n5_; have GE282 := n6_; have NB271_282 := n7_; have NB282_271 := n8_; clear n0_ n1_ n2_ n3_ n4_ n5_ n6_ n7_ n8_; clear hb hbox hg; have hnb43 := NB282_271.out; have hnc43 := NB271_282.out; have hcz44_0 : w42.cell? ⟨gb282, 0, none⟩ = some (.int .i64 0) := (blk_cell BK282.out 0).trans rfl; have hcz44_1 : w42.cell? ⟨gb282, 1, none⟩ = some (.int .i64 0) := (blk_cell BK282.out 1).trans rfl; have hcz44_2 : w42.cell? ⟨gb282, 2, none⟩ = some (.int .i64 0) := (blk_cell BK282.out 2).trans rfl; have hcz44_3 : w42.cell? ⟨gb282, 3, none⟩ = some (.int .i64 0) := (blk_cell BK282.out 3).trans rfl; have hfz44_0 := blk_frozen BK282.out 0; have hfz44_1 := blk_frozen BK282.out 1; have hfz44_2 := blk_frozen BK282.out 2; have hfz44_3 := blk_frozen BK282.out 3)); go_upto_region 11 with (first | ((with_reducible refine gate_dst (N := 7) rfl ?_); (try (refine gate_guard (by rfl) ?_; dsimp only)); refine box_event ?hg (N := 7) ?hd (cs := #[.int .i64 0, .int .i64 0, .int .i64 0, .int .i64 0]) (t := 32) ?hr ?_; (case hd => rfl); (case hg => rfl); (case hr => first | (go_simp; done) | (go_simp; rfl)); intro gb282 hg w42 hbox hb; have n0_ := Aside0.mk (Kd.R_below (Kd.R_elderB (by (with_reducible repeat (first | apply Kd.R_alloc | apply Kd.R_drewN | apply Kd.R_drew)); exact HO_5.out) gb282 (Nat.le_of_eq hg.symm)) hb); have n1_ := Aside0.mk (Kd.R_below (Kd.R_elderB (by (with_reducible repeat (first | apply Kd.R_alloc | apply Kd.R_drewN | apply Kd.R_drew)); exact HO_66.out) gb282 (Nat.le_of_eq hg.symm)) hb); have n2_ := Aside0.mk (blk_below (g := gb271) (o := .cells #[.int .i64 a0_0, .int .i64 a0_1, .int .i64 a0_2, .int .i64 a0_3] 32 (0, 0)) (by (with_reducible repeat (first | refine blk_drewN ?_ _ | refine blk_drew ?_ | refine blk_alloc ?_ _)); exact BK271.out) hb); have n3_ := Aside0.mk (below_step (by repeat (first | (with_reducible first | exact HB.out | apply below_alloc | apply pw_below_drewN | apply below_drew1 | refine below_set ?_ GE271.out) | exact HB.out)) hb); have n4_ := Aside0.mk (hbox); have n5_ := Aside0.mk ((by rw [hg]; exact (below_size (by repeat (first | (with_reducible first | exact HB.out | apply below_alloc | apply pw_below_drewN | apply below_drew1 | refine below_set ?_ GE271.out) | exact HB.out))) : w.heap.size ≤ gb282)); have n6_ := Aside0.mk ((by rw [hg]; exact (below_size (by repeat (first | (with_reducible first | exact HB.out | apply below_alloc | apply pw_below_drewN | apply below_drew1 | refine below_set ?_ GE271.out) | exact HB.out))) : w.heap.size ≤ gb282)); have n7_ := Aside0.mk ((by rw [hg]; exact Nat.ne_of_lt (blk_lt (g := gb271) (o := .cells #[.int .i64 a0_0, .int .i64 a0_1, .int .i64 a0_2, .int .i64 a0_3] 32 (0, 0)) (by (with_reducible repeat (first | refine blk_drewN ?_ _ | refine blk_drew ?_ | refine blk_alloc ?_ _)); exact BK271.out)) : gb271 ≠ gb282)); have n8_ := Aside0.mk ((by rw [hg]; exact Nat.ne_of_gt (blk_lt (g := gb271) (o := .cells #[.int .i64 a0_0, .int .i64 a0_1, .int .i64 a0_2, .int .i64 a0_3] 32 (0, 0)) (by (with_reducible repeat (first | refine blk_drewN ?_ _ | refine blk_drew ?_ | refine blk_alloc ?_ _)); exact BK271.out)) : gb282 ≠ gb271)); clear HO_5; clear HO_66; clear BK271; clear HB; have HO_5 := n0_; have HO_66 := n1_; have BK271 := n2_; have HB := n3_; have BK282 := n4_; have GW282 := n5_; have GE282 := n6_; have NB271_282 := n7_; have NB282_271 := n8_; clear n0_ n1_ n2_ n3_ n4_ n5_ n6_ n7_ n8_; clear hb hbox hg; have hnb43 := NB282_271.out; have hnc43 := NB271_282.out; have hcz44_0 : w42.cell? ⟨gb282, 0, none⟩ = some (.int .i64 0) := (blk_cell BK282.out 0).trans rfl; have hcz44_1 : w42.cell? ⟨gb282, 1, none⟩ = some (.int .i64 0) := (blk_cell BK282.out 1).trans rfl; have hcz44_2 : w42.cell? ⟨gb282, 2, none⟩ = some (.int .i64 0) := (blk_cell BK282.out 2).trans rfl; have hcz44_3 : w42.cell? ⟨gb282, 3, none⟩ = some (.int .i64 0) := (blk_cell BK282.out 3).trans rfl; have hfz44_0 := blk_frozen BK282.out 0; have hfz44_1 := blk_frozen BK282.out 1; have hfz44_2 := blk_frozen BK282.out 2; have hfz44_3 := blk_frozen BK282.out 3)))
             (try simp only [Act.put, List.setIfInBounds_toArray, List.set_cons_zero, List.set_cons_succ])
             go_cut [96] (fun v96 wc => ∃ (kq : Nat) (x96_40 : Bool), v96 = .bool x96_40 ∧ Aside0 (pointillistlaw16_CellJoins.j3 kq t274 t274 (t274.length : Int) x68_3 x96_40 a0_0 a0_1 a0_2 a0_3 ((rd_T32 t274 x68_3).f0) ((rd_T32 t274 x68_3).f1) ((rd_T32 t274 x68_3).f2) ((rd_T32 t274 x68_3).f3) = some r) ∧ Aside0 (kq ≤ k3) ∧ Aside0 (Kd.R k32 32 wc w.heap.size (fun k_ => k_ ≠ gb271 ∧ k_ ≠ gb282) (.slice (some ad281) t274.length co37) t274) ∧ Aside0 (Kd.R k32 32 wc w.heap.size (fun k_ => k_ ≠ gb271 ∧ k_ ≠ gb282) (.slice (some ad281) t274.length co37) t274) ∧ Aside0 (wc.heap[gb271]? = some (.cells #[.int .i64 a0_0, .int .i64 a0_1, .int .i64 a0_2, .int .i64 a0_3] 32 (0, 0))) ∧ Aside0 (wc.heap[gb282]? = some (.cells #[.int .i64 ((rd_T32 t274 x68_3).f0), .int .i64 ((rd_T32 t274 x68_3).f1), .int .i64 ((rd_T32 t274 x68_3).f2), .int .i64 ((rd_T32 t274 x68_3).f3)] 32 (0, 0))) ∧ Aside0 (Below w.heap.size w wc))
             case first =>
              have H := HC41.out
              clear HC41
              by_cases c45 : x68_3 > 0
              ·rw [if_pos c45] at H
               have c45b0 : decide (0 < x68_3) = true := decide_eq_true c45
               clear c45
               (first | rw [c45b0] | (simp only [i64_w, i32_w]; rw [c45b0]) | skip)
               obtain ⟨ji46, hji46⟩ : ∃ j_ : Int, (wrap64 (x68_3 - 1)) = j_ := ⟨_, rfl⟩
               replace H : (if 0 ≤ (ji46) then (if (ji46) < (t274.length : Int) then (if ((rd_T32 t274 x68_3).f0) = ((rd_T32 t274 (ji46)).f2) then (pointillistlaw16_CellJoins.j3 k3 t274 t274 (t274.length : Int) x68_3 (((rd_T32 t274 x68_3).f1) != ((rd_T32 t274 (ji46)).f3)) a0_0 a0_1 a0_2 a0_3 ((rd_T32 t274 x68_3).f0) ((rd_T32 t274 x68_3).f1) ((rd_T32 t274 x68_3).f2) ((rd_T32 t274 x68_3).f3)) else (pointillistlaw16_CellJoins.j3 k3 t274 t274 (t274.length : Int) x68_3 true a0_0 a0_1 a0_2 a0_3 ((rd_T32 t274 x68_3).f0) ((rd_T32 t274 x68_3).f1) ((rd_T32 t274 x68_3).f2) ((rd_T32 t274 x68_3).f3))) else (none)) else (none)) = some r := by first | (rw [hji46] at H; exact H) | (simp only [hji46] at H ⊢; exact H)
               have hji46w : (IntKind.i64.wrap (x68_3 - 1)) = ji46 := (i64_w _).trans hji46
               by_cases c47 : 0 ≤ (ji46)
               ·rw [if_pos c47] at H
                have c47b0 : decide (0 ≤ (ji46)) = true := decide_eq_true c47
                clear c47
                by_cases c48 : (ji46) < (t274.length : Int)
                ·rw [if_pos c48] at H
                 have c48b0 : decide ((ji46) < (t274.length : Int)) = true := decide_eq_true c48
                 clear c48
                 by_cases c49 : ((rd_T32 t274 x68_3).f0) = ((rd_T32 t274 (ji46)).f2)
                 ·rw [if_pos c49] at H
                  have c49b0 : (((rd_T32 t274 x68_3).f0) == ((rd_T32 t274 (ji46)).f2)) = true := beq_iff_eq.mpr c49
                  have c49b1 : (((rd_T32 t274 x68_3).f0) != ((rd_T32 t274 (ji46)).f2)) = false := bne_eq_false_iff_eq.mpr c49
                  clear c49
                  as_aux_lemma =>
                   have H' := Aside0.mk H
                   clear H
                   have hnb50 := NB282_271.out
                   have hnc50 := NB271_282.out
                   have hcz51_0 : w42.cell? ⟨gb282, 0, none⟩ = some (.int .i64 0) := (blk_cell BK282.out 0).trans rfl
                   have hcz51_1 : w42.cell? ⟨gb282, 1, none⟩ = some (.int .i64 0) := (blk_cell BK282.out 1).trans rfl
                   have hcz51_2 : w42.cell? ⟨gb282, 2, none⟩ = some (.int .i64 0) := (blk_cell BK282.out 2).trans rfl
                   have hcz51_3 : w42.cell? ⟨gb282, 3, none⟩ = some (.int .i64 0) := (blk_cell BK282.out 3).trans rfl
                   have hfz51_0 := blk_frozen BK282.out 0
                   have hfz51_1 := blk_frozen BK282.out 1
                   have hfz51_2 := blk_frozen BK282.out 2
                   have hfz51_3 := blk_frozen BK282.out 3
                   have p283 : 0 ≤ ((ji46) : Int) := of_decide_eq_true (by first | (with_reducible assumption) | assumption)
                   have q283 : (ji46) < (t274.length : Int) := of_decide_eq_true (by first | (with_reducible assumption) | assumption)
                   obtain ⟨ad283, e283, hx283_0, hx283_1, hx283_2, hx283_3⟩ := at_T32 (Kd.R_reads' HO_5.out).2.2 (ji46) p283 q283
                   obtain rfl : ad281 = ad283 := (by injection e283)
                   have hn283_0 : ad281.block ≠ gb282 := Kd.own_blk (Kd.R_away HO_5.out (fun _ hk => hk.2))
                   have hn283_1 : ad281.block ≠ gb282 := Kd.own_blk (Kd.R_away HO_5.out (fun _ hk => hk.2))
                   have hn283_2 : ad281.block ≠ gb282 := Kd.own_blk (Kd.R_away HO_5.out (fun _ hk => hk.2))
                   have hn283_3 : ad281.block ≠ gb282 := Kd.own_blk (Kd.R_away HO_5.out (fun _ hk => hk.2))
                   replace hx283_0 := (cell_far (p := ⟨gb282, 0, none⟩) (by first | (rw [add_block]; exact hn283_0) | (show (Addr.add _ _).block ≠ _; rw [add_block]; exact hn283_0) | exact hn283_0) (.int .i64 ((rd_T32 t274 x68_3).f0))).trans hx283_0
                   replace hx283_1 := (cell_far (p := ⟨gb282, 0, none⟩) (by first | (rw [add_block]; exact hn283_0) | (show (Addr.add _ _).block ≠ _; rw [add_block]; exact hn283_0) | exact hn283_0) (.int .i64 ((rd_T32 t274 x68_3).f0))).trans hx283_1
                   replace hx283_2 := (cell_far (p := ⟨gb282, 0, none⟩) (by first | (rw [add_block]; exact hn283_0) | (show (Addr.add _ _).block ≠ _; rw [add_block]; exact hn283_0) | exact hn283_0) (.int .i64 ((rd_T32 t274 x68_3).f0))).trans hx283_2
                   replace hx283_3 := (cell_far (p := ⟨gb282, 0, none⟩) (by first | (rw [add_block]; exact hn283_0) | (show (Addr.add _ _).block ≠ _; rw [add_block]; exact hn283_0) | exact hn283_0) (.int .i64 ((rd_T32 t274 x68_3).f0))).trans hx283_3
                   replace hx283_0 := (cell_far (p := ⟨gb282, 1, none⟩) (by first | (rw [add_block]; exact hn283_1) | (show (Addr.add _ _).block ≠ _; rw [add_block]; exact hn283_1) | exact hn283_1) (.int .i64 ((rd_T32 t274 x68_3).f1))).trans hx283_0
                   replace hx283_1 := (cell_far (p := ⟨gb282, 1, none⟩) (by first | (rw [add_block]; exact hn283_1) | (show (Addr.add _ _).block ≠ _; rw [add_block]; exact hn283_1) | exact hn283_1) (.int .i64 ((rd_T32 t274 x68_3).f1))).trans hx283_1
                   replace hx283_2 := (cell_far (p := ⟨gb282, 1, none⟩) (by first | (rw [add_block]; exact hn283_1) | (show (Addr.add _ _).block ≠ _; rw [add_block]; exact hn283_1) | exact hn283_1) (.int .i64 ((rd_T32 t274 x68_3).f1))).trans hx283_2
                   replace hx283_3 := (cell_far (p := ⟨gb282, 1, none⟩) (by first | (rw [add_block]; exact hn283_1) | (show (Addr.add _ _).block ≠ _; rw [add_block]; exact hn283_1) | exact hn283_1) (.int .i64 ((rd_T32 t274 x68_3).f1))).trans hx283_3
                   replace hx283_0 := (cell_far (p := ⟨gb282, 2, none⟩) (by first | (rw [add_block]; exact hn283_2) | (show (Addr.add _ _).block ≠ _; rw [add_block]; exact hn283_2) | exact hn283_2) (.int .i64 ((rd_T32 t274 x68_3).f2))).trans hx283_0
                   replace hx283_1 := (cell_far (p := ⟨gb282, 2, none⟩) (by first | (rw [add_block]; exact hn283_2) | (show (Addr.add _ _).block ≠ _; rw [add_block]; exact hn283_2) | exact hn283_2) (.int .i64 ((rd_T32 t274 x68_3).f2))).trans hx283_1
                   replace hx283_2 := (cell_far (p := ⟨gb282, 2, none⟩) (by first | (rw [add_block]; exact hn283_2) | (show (Addr.add _ _).block ≠ _; rw [add_block]; exact hn283_2) | exact hn283_2) (.int .i64 ((rd_T32 t274 x68_3).f2))).trans hx283_2
                   replace hx283_3 := (cell_far (p := ⟨gb282, 2, none⟩) (by first | (rw [add_block]; exact hn283_2) | (show (Addr.add _ _).block ≠ _; rw [add_block]; exact hn283_2) | exact hn283_2) (.int .i64 ((rd_T32 t274 x68_3).f2))).trans hx283_3
                   replace hx283_0 := (cell_far (p := ⟨gb282, 3, none⟩) (by first | (rw [add_block]; exact hn283_3) | (show (Addr.add _ _).block ≠ _; rw [add_block]; exact hn283_3) | exact hn283_3) (.int .i64 ((rd_T32 t274 x68_3).f3))).trans hx283_0
                   replace hx283_1 := (cell_far (p := ⟨gb282, 3, none⟩) (by first | (rw [add_block]; exact hn283_3) | (show (Addr.add _ _).block ≠ _; rw [add_block]; exact hn283_3) | exact hn283_3) (.int .i64 ((rd_T32 t274 x68_3).f3))).trans hx283_1
                   replace hx283_2 := (cell_far (p := ⟨gb282, 3, none⟩) (by first | (rw [add_block]; exact hn283_3) | (show (Addr.add _ _).block ≠ _; rw [add_block]; exact hn283_3) | exact hn283_3) (.int .i64 ((rd_T32 t274 x68_3).f3))).trans hx283_2
                   replace hx283_3 := (cell_far (p := ⟨gb282, 3, none⟩) (by first | (rw [add_block]; exact hn283_3) | (show (Addr.add _ _).block ≠ _; rw [add_block]; exact hn283_3) | exact hn283_3) (.int .i64 ((rd_T32 t274 x68_3).f3))).trans hx283_3
                   (try have hy283_0 := fun (n_ : Nat) => (show ((((((w42.drewN n_).setCell ⟨gb282, 0, none⟩ (.int .i64 ((rd_T32 t274 x68_3).f0))).setCell ⟨gb282, 1, none⟩ (.int .i64 ((rd_T32 t274 x68_3).f1))).setCell ⟨gb282, 2, none⟩ (.int .i64 ((rd_T32 t274 x68_3).f2))).setCell ⟨gb282, 3, none⟩ (.int .i64 ((rd_T32 t274 x68_3).f3)))).cell? _ = some _ from hx283_0))
                   (try have hy283_1 := fun (n_ : Nat) => (show ((((((w42.drewN n_).setCell ⟨gb282, 0, none⟩ (.int .i64 ((rd_T32 t274 x68_3).f0))).setCell ⟨gb282, 1, none⟩ (.int .i64 ((rd_T32 t274 x68_3).f1))).setCell ⟨gb282, 2, none⟩ (.int .i64 ((rd_T32 t274 x68_3).f2))).setCell ⟨gb282, 3, none⟩ (.int .i64 ((rd_T32 t274 x68_3).f3)))).cell? _ = some _ from hx283_1))
                   (try have hy283_2 := fun (n_ : Nat) => (show ((((((w42.drewN n_).setCell ⟨gb282, 0, none⟩ (.int .i64 ((rd_T32 t274 x68_3).f0))).setCell ⟨gb282, 1, none⟩ (.int .i64 ((rd_T32 t274 x68_3).f1))).setCell ⟨gb282, 2, none⟩ (.int .i64 ((rd_T32 t274 x68_3).f2))).setCell ⟨gb282, 3, none⟩ (.int .i64 ((rd_T32 t274 x68_3).f3)))).cell? _ = some _ from hx283_2))
                   (try have hy283_3 := fun (n_ : Nat) => (show ((((((w42.drewN n_).setCell ⟨gb282, 0, none⟩ (.int .i64 ((rd_T32 t274 x68_3).f0))).setCell ⟨gb282, 1, none⟩ (.int .i64 ((rd_T32 t274 x68_3).f1))).setCell ⟨gb282, 2, none⟩ (.int .i64 ((rd_T32 t274 x68_3).f2))).setCell ⟨gb282, 3, none⟩ (.int .i64 ((rd_T32 t274 x68_3).f3)))).cell? _ = some _ from hx283_3))
                   clear hn283_0
                   clear hn283_1
                   clear hn283_2
                   clear hn283_3
                   replace p283 := eq_true p283
                   replace q283 := eq_true q283
                   have p284 : 0 ≤ ((ji46) : Int) := of_decide_eq_true (by first | (with_reducible assumption) | assumption)
                   have q284 : (ji46) < (t274.length : Int) := of_decide_eq_true (by first | (with_reducible assumption) | assumption)
                   obtain ⟨ad284, e284, hx284_0, hx284_1, hx284_2, hx284_3⟩ := at_T32 (Kd.R_reads' HO_5.out).2.2 (ji46) p284 q284
                   obtain rfl : ad281 = ad284 := (by injection e284)
                   have hn284_0 : ad281.block ≠ gb282 := Kd.own_blk (Kd.R_away HO_5.out (fun _ hk => hk.2))
                   have hn284_1 : ad281.block ≠ gb282 := Kd.own_blk (Kd.R_away HO_5.out (fun _ hk => hk.2))
                   have hn284_2 : ad281.block ≠ gb282 := Kd.own_blk (Kd.R_away HO_5.out (fun _ hk => hk.2))
                   have hn284_3 : ad281.block ≠ gb282 := Kd.own_blk (Kd.R_away HO_5.out (fun _ hk => hk.2))
                   replace hx284_0 := (cell_far (p := ⟨gb282, 0, none⟩) (by first | (rw [add_block]; exact hn284_0) | (show (Addr.add _ _).block ≠ _; rw [add_block]; exact hn284_0) | exact hn284_0) (.int .i64 ((rd_T32 t274 x68_3).f0))).trans hx284_0
                   replace hx284_1 := (cell_far (p := ⟨gb282, 0, none⟩) (by first | (rw [add_block]; exact hn284_0) | (show (Addr.add _ _).block ≠ _; rw [add_block]; exact hn284_0) | exact hn284_0) (.int .i64 ((rd_T32 t274 x68_3).f0))).trans hx284_1
                   replace hx284_2 := (cell_far (p := ⟨gb282, 0, none⟩) (by first | (rw [add_block]; exact hn284_0) | (show (Addr.add _ _).block ≠ _; rw [add_block]; exact hn284_0) | exact hn284_0) (.int .i64 ((rd_T32 t274 x68_3).f0))).trans hx284_2
                   replace hx284_3 := (cell_far (p := ⟨gb282, 0, none⟩) (by first | (rw [add_block]; exact hn284_0) | (show (Addr.add _ _).block ≠ _; rw [add_block]; exact hn284_0) | exact hn284_0) (.int .i64 ((rd_T32 t274 x68_3).f0))).trans hx284_3
                   replace hx284_0 := (cell_far (p := ⟨gb282, 1, none⟩) (by first | (rw [add_block]; exact hn284_1) | (show (Addr.add _ _).block ≠ _; rw [add_block]; exact hn284_1) | exact hn284_1) (.int .i64 ((rd_T32 t274 x68_3).f1))).trans hx284_0
                   replace hx284_1 := (cell_far (p := ⟨gb282, 1, none⟩) (by first | (rw [add_block]; exact hn284_1) | (show (Addr.add _ _).block ≠ _; rw [add_block]; exact hn284_1) | exact hn284_1) (.int .i64 ((rd_T32 t274 x68_3).f1))).trans hx284_1
                   replace hx284_2 := (cell_far (p := ⟨gb282, 1, none⟩) (by first | (rw [add_block]; exact hn284_1) | (show (Addr.add _ _).block ≠ _; rw [add_block]; exact hn284_1) | exact hn284_1) (.int .i64 ((rd_T32 t274 x68_3).f1))).trans hx284_2
                   replace hx284_3 := (cell_far (p := ⟨gb282, 1, none⟩) (by first | (rw [add_block]; exact hn284_1) | (show (Addr.add _ _).block ≠ _; rw [add_block]; exact hn284_1) | exact hn284_1) (.int .i64 ((rd_T32 t274 x68_3).f1))).trans hx284_3
                   replace hx284_0 := (cell_far (p := ⟨gb282, 2, none⟩) (by first | (rw [add_block]; exact hn284_2) | (show (Addr.add _ _).block ≠ _; rw [add_block]; exact hn284_2) | exact hn284_2) (.int .i64 ((rd_T32 t274 x68_3).f2))).trans hx284_0
                   replace hx284_1 := (cell_far (p := ⟨gb282, 2, none⟩) (by first | (rw [add_block]; exact hn284_2) | (show (Addr.add _ _).block ≠ _; rw [add_block]; exact hn284_2) | exact hn284_2) (.int .i64 ((rd_T32 t274 x68_3).f2))).trans hx284_1
                   replace hx284_2 := (cell_far (p := ⟨gb282, 2, none⟩) (by first | (rw [add_block]; exact hn284_2) | (show (Addr.add _ _).block ≠ _; rw [add_block]; exact hn284_2) | exact hn284_2) (.int .i64 ((rd_T32 t274 x68_3).f2))).trans hx284_2
                   replace hx284_3 := (cell_far (p := ⟨gb282, 2, none⟩) (by first | (rw [add_block]; exact hn284_2) | (show (Addr.add _ _).block ≠ _; rw [add_block]; exact hn284_2) | exact hn284_2) (.int .i64 ((rd_T32 t274 x68_3).f2))).trans hx284_3
                   replace hx284_0 := (cell_far (p := ⟨gb282, 3, none⟩) (by first | (rw [add_block]; exact hn284_3) | (show (Addr.add _ _).block ≠ _; rw [add_block]; exact hn284_3) | exact hn284_3) (.int .i64 ((rd_T32 t274 x68_3).f3))).trans hx284_0
                   replace hx284_1 := (cell_far (p := ⟨gb282, 3, none⟩) (by first | (rw [add_block]; exact hn284_3) | (show (Addr.add _ _).block ≠ _; rw [add_block]; exact hn284_3) | exact hn284_3) (.int .i64 ((rd_T32 t274 x68_3).f3))).trans hx284_1
                   replace hx284_2 := (cell_far (p := ⟨gb282, 3, none⟩) (by first | (rw [add_block]; exact hn284_3) | (show (Addr.add _ _).block ≠ _; rw [add_block]; exact hn284_3) | exact hn284_3) (.int .i64 ((rd_T32 t274 x68_3).f3))).trans hx284_2
                   replace hx284_3 := (cell_far (p := ⟨gb282, 3, none⟩) (by first | (rw [add_block]; exact hn284_3) | (show (Addr.add _ _).block ≠ _; rw [add_block]; exact hn284_3) | exact hn284_3) (.int .i64 ((rd_T32 t274 x68_3).f3))).trans hx284_3
                   (try have hy284_0 := fun (n_ : Nat) => (show ((((((w42.drewN n_).setCell ⟨gb282, 0, none⟩ (.int .i64 ((rd_T32 t274 x68_3).f0))).setCell ⟨gb282, 1, none⟩ (.int .i64 ((rd_T32 t274 x68_3).f1))).setCell ⟨gb282, 2, none⟩ (.int .i64 ((rd_T32 t274 x68_3).f2))).setCell ⟨gb282, 3, none⟩ (.int .i64 ((rd_T32 t274 x68_3).f3)))).cell? _ = some _ from hx284_0))
                   (try have hy284_1 := fun (n_ : Nat) => (show ((((((w42.drewN n_).setCell ⟨gb282, 0, none⟩ (.int .i64 ((rd_T32 t274 x68_3).f0))).setCell ⟨gb282, 1, none⟩ (.int .i64 ((rd_T32 t274 x68_3).f1))).setCell ⟨gb282, 2, none⟩ (.int .i64 ((rd_T32 t274 x68_3).f2))).setCell ⟨gb282, 3, none⟩ (.int .i64 ((rd_T32 t274 x68_3).f3)))).cell? _ = some _ from hx284_1))
                   (try have hy284_2 := fun (n_ : Nat) => (show ((((((w42.drewN n_).setCell ⟨gb282, 0, none⟩ (.int .i64 ((rd_T32 t274 x68_3).f0))).setCell ⟨gb282, 1, none⟩ (.int .i64 ((rd_T32 t274 x68_3).f1))).setCell ⟨gb282, 2, none⟩ (.int .i64 ((rd_T32 t274 x68_3).f2))).setCell ⟨gb282, 3, none⟩ (.int .i64 ((rd_T32 t274 x68_3).f3)))).cell? _ = some _ from hx284_2))
                   (try have hy284_3 := fun (n_ : Nat) => (show ((((((w42.drewN n_).setCell ⟨gb282, 0, none⟩ (.int .i64 ((rd_T32 t274 x68_3).f0))).setCell ⟨gb282, 1, none⟩ (.int .i64 ((rd_T32 t274 x68_3).f1))).setCell ⟨gb282, 2, none⟩ (.int .i64 ((rd_T32 t274 x68_3).f2))).setCell ⟨gb282, 3, none⟩ (.int .i64 ((rd_T32 t274 x68_3).f3)))).cell? _ = some _ from hx284_3))
                   clear hn284_0
                   clear hn284_1
                   clear hn284_2
                   clear hn284_3
                   replace p284 := eq_true p284
                   replace q284 := eq_true q284
                   go_wp2
                   repeat (go_quiet (fail); try go_wp2)
                   go_meet
                   case rel => exact ⟨_, ((((rd_T32 t274 x68_3).f1) != ((rd_T32 t274 (ji46)).f3))), (by first | rfl | (simp; done) | (simp only [← hji46] <;> (first | rfl | simp)) | (simp [*]; done)), H', ⟨by have := HJ4.out; have := HJ15.out; have := HK3.out; first | omega | exact Nat.le_refl _⟩, ⟨by (with_reducible repeat (first | apply Kd.R_alloc | apply Kd.R_drewN | apply Kd.R_drew)); exact Kd.R_mono (Kd.R_far (p := ⟨gb282, 3, none⟩) (Kd.R_far (p := ⟨gb282, 2, none⟩) (Kd.R_far (p := ⟨gb282, 1, none⟩) (Kd.R_far (p := ⟨gb282, 0, none⟩) (Kd.R_mono HO_5.out (fun k_ hk => (⟨hk, hk.2⟩ : _ ∧ k_ ≠ gb282))) (fun _ hk => hk.2) (.int .i64 ((rd_T32 t274 x68_3).f0))) (fun _ hk => hk.2) (.int .i64 ((rd_T32 t274 x68_3).f1))) (fun _ hk => hk.2) (.int .i64 ((rd_T32 t274 x68_3).f2))) (fun _ hk => hk.2) (.int .i64 ((rd_T32 t274 x68_3).f3))) (fun _ hk => ⟨hk.1.1, hk.1.2⟩)⟩, ⟨by (with_reducible repeat (first | apply Kd.R_alloc | apply Kd.R_drewN | apply Kd.R_drew)); exact Kd.R_mono (Kd.R_far (p := ⟨gb282, 3, none⟩) (Kd.R_far (p := ⟨gb282, 2, none⟩) (Kd.R_far (p := ⟨gb282, 1, none⟩) (Kd.R_far (p := ⟨gb282, 0, none⟩) (Kd.R_mono HO_66.out (fun k_ hk => (⟨hk, hk.2⟩ : _ ∧ k_ ≠ gb282))) (fun _ hk => hk.2) (.int .i64 ((rd_T32 t274 x68_3).f0))) (fun _ hk => hk.2) (.int .i64 ((rd_T32 t274 x68_3).f1))) (fun _ hk => hk.2) (.int .i64 ((rd_T32 t274 x68_3).f2))) (fun _ hk => hk.2) (.int .i64 ((rd_T32 t274 x68_3).f3))) (fun _ hk => ⟨hk.1.1, hk.1.2⟩)⟩, ⟨by (with_reducible repeat (first | refine blk_drewN ?_ _ | refine blk_drew ?_ | refine blk_alloc ?_ _)); refine blk_far ?_ NB271_282.out _; (with_reducible repeat (first | refine blk_drewN ?_ _ | refine blk_drew ?_ | refine blk_alloc ?_ _)); refine blk_far ?_ NB271_282.out _; (with_reducible repeat (first | refine blk_drewN ?_ _ | refine blk_drew ?_ | refine blk_alloc ?_ _)); refine blk_far ?_ NB271_282.out _; (with_reducible repeat (first | refine blk_drewN ?_ _ | refine blk_drew ?_ | refine blk_alloc ?_ _)); refine blk_far ?_ NB271_282.out _; (with_reducible repeat (first | refine blk_drewN ?_ _ | refine blk_drew ?_ | refine blk_alloc ?_ _)); exact BK271.out⟩, ⟨by (with_reducible repeat (first | refine blk_drewN ?_ _ | refine blk_drew ?_ | refine blk_alloc ?_ _)); refine blk_put (cs := #[.int .i64 ((rd_T32 t274 x68_3).f0), .int .i64 ((rd_T32 t274 x68_3).f1), .int .i64 ((rd_T32 t274 x68_3).f2), .int .i64 0]) ?_ 3 _ rfl; (with_reducible repeat (first | refine blk_drewN ?_ _ | refine blk_drew ?_ | refine blk_alloc ?_ _)); refine blk_put (cs := #[.int .i64 ((rd_T32 t274 x68_3).f0), .int .i64 ((rd_T32 t274 x68_3).f1), .int .i64 0, .int .i64 0]) ?_ 2 _ rfl; (with_reducible repeat (first | refine blk_drewN ?_ _ | refine blk_drew ?_ | refine blk_alloc ?_ _)); refine blk_put (cs := #[.int .i64 ((rd_T32 t274 x68_3).f0), .int .i64 0, .int .i64 0, .int .i64 0]) ?_ 1 _ rfl; (with_reducible repeat (first | refine blk_drewN ?_ _ | refine blk_drew ?_ | refine blk_alloc ?_ _)); refine blk_put (cs := #[.int .i64 0, .int .i64 0, .int .i64 0, .int .i64 0]) ?_ 0 _ rfl; (with_reducible repeat (first | refine blk_drewN ?_ _ | refine blk_drew ?_ | refine blk_alloc ?_ _)); exact BK282.out⟩, ⟨by repeat (first | (with_reducible first | exact HB.out | apply below_alloc | apply pw_below_drewN | apply below_drew1 | refine below_set ?_ GE271.out | refine below_set ?_ GE282.out) | exact HB.out)⟩⟩
                 ·rw [if_neg c49] at H
                  have c49b0 : (((rd_T32 t274 x68_3).f0) == ((rd_T32 t274 (ji46)).f2)) = false := beq_eq_false_iff_ne.mpr c49
                  have c49b1 : (((rd_T32 t274 x68_3).f0) != ((rd_T32 t274 (ji46)).f2)) = true := bne_iff_ne.mpr c49
                  as_aux_lemma =>
                   have H' := Aside0.mk H
                   clear H
                   have hnb52 := NB282_271.out
                   have hnc52 := NB271_282.out
                   have hcz53_0 : w42.cell? ⟨gb282, 0, none⟩ = some (.int .i64 0) := (blk_cell BK282.out 0).trans rfl
                   have hcz53_1 : w42.cell? ⟨gb282, 1, none⟩ = some (.int .i64 0) := (blk_cell BK282.out 1).trans rfl
                   have hcz53_2 : w42.cell? ⟨gb282, 2, none⟩ = some (.int .i64 0) := (blk_cell BK282.out 2).trans rfl
                   have hcz53_3 : w42.cell? ⟨gb282, 3, none⟩ = some (.int .i64 0) := (blk_cell BK282.out 3).trans rfl
                   have hfz53_0 := blk_frozen BK282.out 0
                   have hfz53_1 := blk_frozen BK282.out 1
                   have hfz53_2 := blk_frozen BK282.out 2
                   have hfz53_3 := blk_frozen BK282.out 3
                   have p283 : 0 ≤ ((ji46) : Int) := of_decide_eq_true (by first | (with_reducible assumption) | assumption)
                   have q283 : (ji46) < (t274.length : Int) := of_decide_eq_true (by first | (with_reducible assumption) | assumption)
                   obtain ⟨ad283, e283, hx283_0, hx283_1, hx283_2, hx283_3⟩ := at_T32 (Kd.R_reads' HO_5.out).2.2 (ji46) p283 q283
                   obtain rfl : ad281 = ad283 := (by injection e283)
                   have hn283_0 : ad281.block ≠ gb282 := Kd.own_blk (Kd.R_away HO_5.out (fun _ hk => hk.2))
                   have hn283_1 : ad281.block ≠ gb282 := Kd.own_blk (Kd.R_away HO_5.out (fun _ hk => hk.2))
                   have hn283_2 : ad281.block ≠ gb282 := Kd.own_blk (Kd.R_away HO_5.out (fun _ hk => hk.2))
                   have hn283_3 : ad281.block ≠ gb282 := Kd.own_blk (Kd.R_away HO_5.out (fun _ hk => hk.2))
                   replace hx283_0 := (cell_far (p := ⟨gb282, 0, none⟩) (by first | (rw [add_block]; exact hn283_0) | (show (Addr.add _ _).block ≠ _; rw [add_block]; exact hn283_0) | exact hn283_0) (.int .i64 ((rd_T32 t274 x68_3).f0))).trans hx283_0
                   replace hx283_1 := (cell_far (p := ⟨gb282, 0, none⟩) (by first | (rw [add_block]; exact hn283_0) | (show (Addr.add _ _).block ≠ _; rw [add_block]; exact hn283_0) | exact hn283_0) (.int .i64 ((rd_T32 t274 x68_3).f0))).trans hx283_1
                   replace hx283_2 := (cell_far (p := ⟨gb282, 0, none⟩) (by first | (rw [add_block]; exact hn283_0) | (show (Addr.add _ _).block ≠ _; rw [add_block]; exact hn283_0) | exact hn283_0) (.int .i64 ((rd_T32 t274 x68_3).f0))).trans hx283_2
                   replace hx283_3 := (cell_far (p := ⟨gb282, 0, none⟩) (by first | (rw [add_block]; exact hn283_0) | (show (Addr.add _ _).block ≠ _; rw [add_block]; exact hn283_0) | exact hn283_0) (.int .i64 ((rd_T32 t274 x68_3).f0))).trans hx283_3
                   replace hx283_0 := (cell_far (p := ⟨gb282, 1, none⟩) (by first | (rw [add_block]; exact hn283_1) | (show (Addr.add _ _).block ≠ _; rw [add_block]; exact hn283_1) | exact hn283_1) (.int .i64 ((rd_T32 t274 x68_3).f1))).trans hx283_0
                   replace hx283_1 := (cell_far (p := ⟨gb282, 1, none⟩) (by first | (rw [add_block]; exact hn283_1) | (show (Addr.add _ _).block ≠ _; rw [add_block]; exact hn283_1) | exact hn283_1) (.int .i64 ((rd_T32 t274 x68_3).f1))).trans hx283_1
                   replace hx283_2 := (cell_far (p := ⟨gb282, 1, none⟩) (by first | (rw [add_block]; exact hn283_1) | (show (Addr.add _ _).block ≠ _; rw [add_block]; exact hn283_1) | exact hn283_1) (.int .i64 ((rd_T32 t274 x68_3).f1))).trans hx283_2
                   replace hx283_3 := (cell_far (p := ⟨gb282, 1, none⟩) (by first | (rw [add_block]; exact hn283_1) | (show (Addr.add _ _).block ≠ _; rw [add_block]; exact hn283_1) | exact hn283_1) (.int .i64 ((rd_T32 t274 x68_3).f1))).trans hx283_3
                   replace hx283_0 := (cell_far (p := ⟨gb282, 2, none⟩) (by first | (rw [add_block]; exact hn283_2) | (show (Addr.add _ _).block ≠ _; rw [add_block]; exact hn283_2) | exact hn283_2) (.int .i64 ((rd_T32 t274 x68_3).f2))).trans hx283_0
                   replace hx283_1 := (cell_far (p := ⟨gb282, 2, none⟩) (by first | (rw [add_block]; exact hn283_2) | (show (Addr.add _ _).block ≠ _; rw [add_block]; exact hn283_2) | exact hn283_2) (.int .i64 ((rd_T32 t274 x68_3).f2))).trans hx283_1
                   replace hx283_2 := (cell_far (p := ⟨gb282, 2, none⟩) (by first | (rw [add_block]; exact hn283_2) | (show (Addr.add _ _).block ≠ _; rw [add_block]; exact hn283_2) | exact hn283_2) (.int .i64 ((rd_T32 t274 x68_3).f2))).trans hx283_2
                   replace hx283_3 := (cell_far (p := ⟨gb282, 2, none⟩) (by first | (rw [add_block]; exact hn283_2) | (show (Addr.add _ _).block ≠ _; rw [add_block]; exact hn283_2) | exact hn283_2) (.int .i64 ((rd_T32 t274 x68_3).f2))).trans hx283_3
                   replace hx283_0 := (cell_far (p := ⟨gb282, 3, none⟩) (by first | (rw [add_block]; exact hn283_3) | (show (Addr.add _ _).block ≠ _; rw [add_block]; exact hn283_3) | exact hn283_3) (.int .i64 ((rd_T32 t274 x68_3).f3))).trans hx283_0
                   replace hx283_1 := (cell_far (p := ⟨gb282, 3, none⟩) (by first | (rw [add_block]; exact hn283_3) | (show (Addr.add _ _).block ≠ _; rw [add_block]; exact hn283_3) | exact hn283_3) (.int .i64 ((rd_T32 t274 x68_3).f3))).trans hx283_1
                   replace hx283_2 := (cell_far (p := ⟨gb282, 3, none⟩) (by first | (rw [add_block]; exact hn283_3) | (show (Addr.add _ _).block ≠ _; rw [add_block]; exact hn283_3) | exact hn283_3) (.int .i64 ((rd_T32 t274 x68_3).f3))).trans hx283_2
                   replace hx283_3 := (cell_far (p := ⟨gb282, 3, none⟩) (by first | (rw [add_block]; exact hn283_3) | (show (Addr.add _ _).block ≠ _; rw [add_block]; exact hn283_3) | exact hn283_3) (.int .i64 ((rd_T32 t274 x68_3).f3))).trans hx283_3
                   (try have hy283_0 := fun (n_ : Nat) => (show ((((((w42.drewN n_).setCell ⟨gb282, 0, none⟩ (.int .i64 ((rd_T32 t274 x68_3).f0))).setCell ⟨gb282, 1, none⟩ (.int .i64 ((rd_T32 t274 x68_3).f1))).setCell ⟨gb282, 2, none⟩ (.int .i64 ((rd_T32 t274 x68_3).f2))).setCell ⟨gb282, 3, none⟩ (.int .i64 ((rd_T32 t274 x68_3).f3)))).cell? _ = some _ from hx283_0))
                   (try have hy283_1 := fun (n_ : Nat) => (show ((((((w42.drewN n_).setCell ⟨gb282, 0, none⟩ (.int .i64 ((rd_T32 t274 x68_3).f0))).setCell ⟨gb282, 1, none⟩ (.int .i64 ((rd_T32 t274 x68_3).f1))).setCell ⟨gb282, 2, none⟩ (.int .i64 ((rd_T32 t274 x68_3).f2))).setCell ⟨gb282, 3, none⟩ (.int .i64 ((rd_T32 t274 x68_3).f3)))).cell? _ = some _ from hx283_1))
                   (try have hy283_2 := fun (n_ : Nat) => (show ((((((w42.drewN n_).setCell ⟨gb282, 0, none⟩ (.int .i64 ((rd_T32 t274 x68_3).f0))).setCell ⟨gb282, 1, none⟩ (.int .i64 ((rd_T32 t274 x68_3).f1))).setCell ⟨gb282, 2, none⟩ (.int .i64 ((rd_T32 t274 x68_3).f2))).setCell ⟨gb282, 3, none⟩ (.int .i64 ((rd_T32 t274 x68_3).f3)))).cell? _ = some _ from hx283_2))
                   (try have hy283_3 := fun (n_ : Nat) => (show ((((((w42.drewN n_).setCell ⟨gb282, 0, none⟩ (.int .i64 ((rd_T32 t274 x68_3).f0))).setCell ⟨gb282, 1, none⟩ (.int .i64 ((rd_T32 t274 x68_3).f1))).setCell ⟨gb282, 2, none⟩ (.int .i64 ((rd_T32 t274 x68_3).f2))).setCell ⟨gb282, 3, none⟩ (.int .i64 ((rd_T32 t274 x68_3).f3)))).cell? _ = some _ from hx283_3))
                   clear hn283_0
                   clear hn283_1
                   clear hn283_2
                   clear hn283_3
                   replace p283 := eq_true p283
                   replace q283 := eq_true q283
                   go_wp2
                   repeat (go_quiet (fail); try go_wp2)
                   go_meet
                   case rel => exact ⟨_, (true), (by first | rfl | (simp; done) | (simp [*]; done)), H', ⟨by have := HJ4.out; have := HJ15.out; have := HK3.out; first | omega | exact Nat.le_refl _⟩, ⟨by (with_reducible repeat (first | apply Kd.R_alloc | apply Kd.R_drewN | apply Kd.R_drew)); exact Kd.R_mono (Kd.R_far (p := ⟨gb282, 3, none⟩) (Kd.R_far (p := ⟨gb282, 2, none⟩) (Kd.R_far (p := ⟨gb282, 1, none⟩) (Kd.R_far (p := ⟨gb282, 0, none⟩) (Kd.R_mono HO_5.out (fun k_ hk => (⟨hk, hk.2⟩ : _ ∧ k_ ≠ gb282))) (fun _ hk => hk.2) (.int .i64 ((rd_T32 t274 x68_3).f0))) (fun _ hk => hk.2) (.int .i64 ((rd_T32 t274 x68_3).f1))) (fun _ hk => hk.2) (.int .i64 ((rd_T32 t274 x68_3).f2))) (fun _ hk => hk.2) (.int .i64 ((rd_T32 t274 x68_3).f3))) (fun _ hk => ⟨hk.1.1, hk.1.2⟩)⟩, ⟨by (with_reducible repeat (first | apply Kd.R_alloc | apply Kd.R_drewN | apply Kd.R_drew)); exact Kd.R_mono (Kd.R_far (p := ⟨gb282, 3, none⟩) (Kd.R_far (p := ⟨gb282, 2, none⟩) (Kd.R_far (p := ⟨gb282, 1, none⟩) (Kd.R_far (p := ⟨gb282, 0, none⟩) (Kd.R_mono HO_66.out (fun k_ hk => (⟨hk, hk.2⟩ : _ ∧ k_ ≠ gb282))) (fun _ hk => hk.2) (.int .i64 ((rd_T32 t274 x68_3).f0))) (fun _ hk => hk.2) (.int .i64 ((rd_T32 t274 x68_3).f1))) (fun _ hk => hk.2) (.int .i64 ((rd_T32 t274 x68_3).f2))) (fun _ hk => hk.2) (.int .i64 ((rd_T32 t274 x68_3).f3))) (fun _ hk => ⟨hk.1.1, hk.1.2⟩)⟩, ⟨by (with_reducible repeat (first | refine blk_drewN ?_ _ | refine blk_drew ?_ | refine blk_alloc ?_ _)); refine blk_far ?_ NB271_282.out _; (with_reducible repeat (first | refine blk_drewN ?_ _ | refine blk_drew ?_ | refine blk_alloc ?_ _)); refine blk_far ?_ NB271_282.out _; (with_reducible repeat (first | refine blk_drewN ?_ _ | refine blk_drew ?_ | refine blk_alloc ?_ _)); refine blk_far ?_ NB271_282.out _; (with_reducible repeat (first | refine blk_drewN ?_ _ | refine blk_drew ?_ | refine blk_alloc ?_ _)); refine blk_far ?_ NB271_282.out _; (with_reducible repeat (first | refine blk_drewN ?_ _ | refine blk_drew ?_ | refine blk_alloc ?_ _)); exact BK271.out⟩, ⟨by (with_reducible repeat (first | refine blk_drewN ?_ _ | refine blk_drew ?_ | refine blk_alloc ?_ _)); refine blk_put (cs := #[.int .i64 ((rd_T32 t274 x68_3).f0), .int .i64 ((rd_T32 t274 x68_3).f1), .int .i64 ((rd_T32 t274 x68_3).f2), .int .i64 0]) ?_ 3 _ rfl; (with_reducible repeat (first | refine blk_drewN ?_ _ | refine blk_drew ?_ | refine blk_alloc ?_ _)); refine blk_put (cs := #[.int .i64 ((rd_T32 t274 x68_3).f0), .int .i64 ((rd_T32 t274 x68_3).f1), .int .i64 0, .int .i64 0]) ?_ 2 _ rfl; (with_reducible repeat (first | refine blk_drewN ?_ _ | refine blk_drew ?_ | refine blk_alloc ?_ _)); refine blk_put (cs := #[.int .i64 ((rd_T32 t274 x68_3).f0), .int .i64 0, .int .i64 0, .int .i64 0]) ?_ 1 _ rfl; (with_reducible repeat (first | refine blk_drewN ?_ _ | refine blk_drew ?_ | refine blk_alloc ?_ _)); refine blk_put (cs := #[.int .i64 0, .int .i64 0, .int .i64 0, .int .i64 0]) ?_ 0 _ rfl; (with_reducible repeat (first | refine blk_drewN ?_ _ | refine blk_drew ?_ | refine blk_alloc ?_ _)); exact BK282.out⟩, ⟨by repeat (first | (with_reducible first | exact HB.out | apply below_alloc | apply pw_below_drewN | apply below_drew1 | refine below_set ?_ GE271.out | refine below_set ?_ GE282.out) | exact HB.out)⟩⟩
                ·rw [if_neg c48] at H
                 exact absurd H (by simp)
               ·rw [if_neg c47] at H
                exact absurd H (by simp)
              ·rw [if_neg c45] at H
               have c45b0 : decide (0 < x68_3) = false := decide_eq_false c45
               clear c45
               (first | rw [c45b0] | (simp only [i64_w, i32_w]; rw [c45b0]) | skip)
               as_aux_lemma =>
                have H' := Aside0.mk H
                clear H
                go_wp2
                repeat (go_quiet (fail); try go_wp2)
                go_meet
                case rel => exact ⟨_, (false), (by first | rfl | (simp; done) | (simp [*]; done)), H', ⟨by have := HJ4.out; have := HJ15.out; have := HK3.out; first | omega | exact Nat.le_refl _⟩, ⟨by (with_reducible repeat (first | apply Kd.R_alloc | apply Kd.R_drewN | apply Kd.R_drew)); exact Kd.R_mono (Kd.R_far (p := ⟨gb282, 3, none⟩) (Kd.R_far (p := ⟨gb282, 2, none⟩) (Kd.R_far (p := ⟨gb282, 1, none⟩) (Kd.R_far (p := ⟨gb282, 0, none⟩) (Kd.R_mono HO_5.out (fun k_ hk => (⟨hk, hk.2⟩ : _ ∧ k_ ≠ gb282))) (fun _ hk => hk.2) (.int .i64 ((rd_T32 t274 x68_3).f0))) (fun _ hk => hk.2) (.int .i64 ((rd_T32 t274 x68_3).f1))) (fun _ hk => hk.2) (.int .i64 ((rd_T32 t274 x68_3).f2))) (fun _ hk => hk.2) (.int .i64 ((rd_T32 t274 x68_3).f3))) (fun _ hk => ⟨hk.1.1, hk.1.2⟩)⟩, ⟨by (with_reducible repeat (first | apply Kd.R_alloc | apply Kd.R_drewN | apply Kd.R_drew)); exact Kd.R_mono (Kd.R_far (p := ⟨gb282, 3, none⟩) (Kd.R_far (p := ⟨gb282, 2, none⟩) (Kd.R_far (p := ⟨gb282, 1, none⟩) (Kd.R_far (p := ⟨gb282, 0, none⟩) (Kd.R_mono HO_66.out (fun k_ hk => (⟨hk, hk.2⟩ : _ ∧ k_ ≠ gb282))) (fun _ hk => hk.2) (.int .i64 ((rd_T32 t274 x68_3).f0))) (fun _ hk => hk.2) (.int .i64 ((rd_T32 t274 x68_3).f1))) (fun _ hk => hk.2) (.int .i64 ((rd_T32 t274 x68_3).f2))) (fun _ hk => hk.2) (.int .i64 ((rd_T32 t274 x68_3).f3))) (fun _ hk => ⟨hk.1.1, hk.1.2⟩)⟩, ⟨by (with_reducible repeat (first | refine blk_drewN ?_ _ | refine blk_drew ?_ | refine blk_alloc ?_ _)); refine blk_far ?_ NB271_282.out _; (with_reducible repeat (first | refine blk_drewN ?_ _ | refine blk_drew ?_ | refine blk_alloc ?_ _)); refine blk_far ?_ NB271_282.out _; (with_reducible repeat (first | refine blk_drewN ?_ _ | refine blk_drew ?_ | refine blk_alloc ?_ _)); refine blk_far ?_ NB271_282.out _; (with_reducible repeat (first | refine blk_drewN ?_ _ | refine blk_drew ?_ | refine blk_alloc ?_ _)); refine blk_far ?_ NB271_282.out _; (with_reducible repeat (first | refine blk_drewN ?_ _ | refine blk_drew ?_ | refine blk_alloc ?_ _)); exact BK271.out⟩, ⟨by (with_reducible repeat (first | refine blk_drewN ?_ _ | refine blk_drew ?_ | refine blk_alloc ?_ _)); refine blk_put (cs := #[.int .i64 ((rd_T32 t274 x68_3).f0), .int .i64 ((rd_T32 t274 x68_3).f1), .int .i64 ((rd_T32 t274 x68_3).f2), .int .i64 0]) ?_ 3 _ rfl; (with_reducible repeat (first | refine blk_drewN ?_ _ | refine blk_drew ?_ | refine blk_alloc ?_ _)); refine blk_put (cs := #[.int .i64 ((rd_T32 t274 x68_3).f0), .int .i64 ((rd_T32 t274 x68_3).f1), .int .i64 0, .int .i64 0]) ?_ 2 _ rfl; (with_reducible repeat (first | refine blk_drewN ?_ _ | refine blk_drew ?_ | refine blk_alloc ?_ _)); refine blk_put (cs := #[.int .i64 ((rd_T32 t274 x68_3).f0), .int .i64 0, .int .i64 0, .int .i64 0]) ?_ 1 _ rfl; (with_reducible repeat (first | refine blk_drewN ?_ _ | refine blk_drew ?_ | refine blk_alloc ?_ _)); refine blk_put (cs := #[.int .i64 0, .int .i64 0, .int .i64 0, .int .i64 0]) ?_ 0 _ rfl; (with_reducible repeat (first | refine blk_drewN ?_ _ | refine blk_drew ?_ | refine blk_alloc ?_ _)); exact BK282.out⟩, ⟨by repeat (first | (with_reducible first | exact HB.out | apply below_alloc | apply pw_below_drewN | apply below_drew1 | refine below_set ?_ GE271.out | refine below_set ?_ GE282.out) | exact HB.out)⟩⟩
             case rest =>
              clear HC41
              try clear c1
              try clear c2
              try clear p2
              try clear q2
              try clear hx2
              try clear qi2
              try clear c3
              try clear c4
              try clear c5
              try clear p6
              try clear c9
              try clear c10
              try clear c14
              try clear c19
              try clear c19b0
              try clear c19b1
              try clear c19b2
              try clear c21
              try clear c21b0
              try clear c21b1
              try clear c22
              try clear c22b0
              try clear c22b1
              try clear c23
              try clear c23b0
              try clear c23b1
              try clear c25
              try clear c25b0
              try clear c26
              try clear c26b0
              try clear c27
              try clear c27b0
              try clear c27b1
              try clear p27
              try clear q27
              try clear hx27
              try clear qi27
              try clear p28
              try clear q28
              try clear hx28
              try clear c36
              try clear c38
              try clear c38b0
              try clear c39
              try clear c39b0
              try clear c40
              try clear c40b0
              try clear c43
              try clear c45
              try clear c45b0
              try clear c47
              try clear c47b0
              try clear c48
              try clear c48b0
              try clear c49
              try clear c49b0
              try clear c49b1
              try clear c50
              try clear c52
              try clear hcz10_0
              try clear hcz10_1
              try clear hcz10_2
              try clear hcz10_3
              try clear hcz12_0
              try clear hcz12_1
              try clear hcz12_2
              try clear hcz12_3
              try clear hcz17_0
              try clear hcz17_1
              try clear hcz17_2
              try clear hcz17_3
              try clear hcz29_0
              try clear hcz29_1
              try clear hcz29_2
              try clear hcz29_3
              try clear hcz31_0
              try clear hcz31_1
              try clear hcz31_2
              try clear hcz31_3
              try clear hcz33_0
              try clear hcz33_1
              try clear hcz33_2
              try clear hcz33_3
              try clear hcz35_0
              try clear hcz35_1
              try clear hcz35_2
              try clear hcz35_3
              try clear hcz44_0
              try clear hcz44_1
              try clear hcz44_2
              try clear hcz44_3
              try clear hcz51_0
              try clear hcz51_1
              try clear hcz51_2
              try clear hcz51_3
              try clear hcz53_0
              try clear hcz53_1
              try clear hcz53_2
              try clear hcz53_3
              try clear hfz10_0
              try clear hfz10_1
              try clear hfz10_2
              try clear hfz10_3
              try clear hfz12_0
              try clear hfz12_1
              try clear hfz12_2
              try clear hfz12_3
              try clear hfz17_0
              try clear hfz17_1
              try clear hfz17_2
              try clear hfz17_3
              try clear hfz29_0
              try clear hfz29_1
              try clear hfz29_2
              try clear hfz29_3
              try clear hfz31_0
              try clear hfz31_1
              try clear hfz31_2
              try clear hfz31_3
              try clear hfz33_0
              try clear hfz33_1
              try clear hfz33_2
              try clear hfz33_3
              try clear hfz35_0
              try clear hfz35_1
              try clear hfz35_2
              try clear hfz35_3
              try clear hfz44_0
              try clear hfz44_1
              try clear hfz44_2
              try clear hfz44_3
              try clear hfz51_0
              try clear hfz51_1
              try clear hfz51_2
              try clear hfz51_3
              try clear hfz53_0
              try clear hfz53_1
              try clear hfz53_2
              try clear hfz53_3
              try clear hx277_0
              try clear hx277_1
              try clear hx277_2
              try clear hx277_3
              try clear hx278_0
              try clear hx278_1
              try clear hx278_2
              try clear hx278_3
              try clear hx279_0
              try clear hx279_1
              try clear hx279_2
              try clear hx279_3
              try clear hx280_0
              try clear hx280_1
              try clear hx280_2
              try clear hx280_3
              try clear hx281_0
              try clear hx281_1
              try clear hx281_2
              try clear hx281_3
              try clear hx283_0
              try clear hx283_1
              try clear hx283_2
              try clear hx283_3
              try clear hx284_0
              try clear hx284_1
              try clear hx284_2
              try clear hx284_3
              try clear p2
              try clear p27
              try clear p277
              try clear p278
              try clear p279
              try clear p28
              try clear p280
              try clear p281
              try clear p283
              try clear p284
              try clear p6
              try clear q2
              try clear q27
              try clear q277
              try clear q278
              try clear q279
              try clear q28
              try clear q280
              try clear q281
              try clear q283
              try clear q284
              obtain ⟨kq, x96_40, rfl, HA, HJ40, HO_5, HO_66, BK271, BK282, HB⟩ := hcut
              cases kq with
              | zero => exact absurd HA.out (by simp [pointillistlaw16_CellJoins.j3])
              | succ kj40 =>
               have H := HA.out
               clear HA
               simp only [pointillistlaw16_CellJoins.j3] at H
               by_cases c54 : x96_40 = true
               ·subst c54
                have H1 : (some false) = some r := by rw [if_pos rfl] at H; exact H
                clear H
                have H := H1
                clear H1
                as_aux_lemma =>
                 obtain rfl := Option.some.inj H
                 go_wp2
                 repeat (go_quiet (fail); try go_wp2)
                 go_ret
                 exact ⟨by first | rfl | (simp [errW_none, errW_some] <;> rfl) | (simp [*, errW_none, errW_some] <;> rfl), by repeat (first | (with_reducible first | exact HB.out | apply below_alloc | apply pw_below_drewN | apply below_drew1 | refine below_set ?_ GE271.out | refine below_set ?_ GE282.out) | exact HB.out)⟩
               ·replace c54 := Bool.eq_false_iff.mpr c54
                subst c54
                have H1 : (if a0_0 ≤ a0_2 then (if ((rd_T32 t274 x68_3).f2) < ((rd_T32 t274 x68_3).f0) then (some false) else (if a0_0 ≥ a0_2 then (if ((rd_T32 t274 x68_3).f2) > ((rd_T32 t274 x68_3).f0) then (some false) else (if a0_1 ≤ a0_3 then (if ((rd_T32 t274 x68_3).f3) < ((rd_T32 t274 x68_3).f1) then (some false) else (if a0_1 ≥ a0_3 then (if ((rd_T32 t274 x68_3).f3) > ((rd_T32 t274 x68_3).f1) then (some false) else (pointillistlaw16_CellJoins.l0 kj40 t274 t274 (t274.length : Int) (wrap64 (x68_3 + 1)) a0_0 a0_1 a0_2 a0_3)) else (pointillistlaw16_CellJoins.l0 kj40 t274 t274 (t274.length : Int) (wrap64 (x68_3 + 1)) a0_0 a0_1 a0_2 a0_3))) else (if a0_1 ≥ a0_3 then (if ((rd_T32 t274 x68_3).f3) > ((rd_T32 t274 x68_3).f1) then (some false) else (pointillistlaw16_CellJoins.l0 kj40 t274 t274 (t274.length : Int) (wrap64 (x68_3 + 1)) a0_0 a0_1 a0_2 a0_3)) else (pointillistlaw16_CellJoins.l0 kj40 t274 t274 (t274.length : Int) (wrap64 (x68_3 + 1)) a0_0 a0_1 a0_2 a0_3)))) else (if a0_1 ≤ a0_3 then (if ((rd_T32 t274 x68_3).f3) < ((rd_T32 t274 x68_3).f1) then (some false) else (if a0_1 ≥ a0_3 then (if ((rd_T32 t274 x68_3).f3) > ((rd_T32 t274 x68_3).f1) then (some false) else (pointillistlaw16_CellJoins.l0 kj40 t274 t274 (t274.length : Int) (wrap64 (x68_3 + 1)) a0_0 a0_1 a0_2 a0_3)) else (pointillistlaw16_CellJoins.l0 kj40 t274 t274 (t274.length : Int) (wrap64 (x68_3 + 1)) a0_0 a0_1 a0_2 a0_3))) else (if a0_1 ≥ a0_3 then (if ((rd_T32 t274 x68_3).f3) > ((rd_T32 t274 x68_3).f1) then (some false) else (pointillistlaw16_CellJoins.l0 kj40 t274 t274 (t274.length : Int) (wrap64 (x68_3 + 1)) a0_0 a0_1 a0_2 a0_3)) else (pointillistlaw16_CellJoins.l0 kj40 t274 t274 (t274.length : Int) (wrap64 (x68_3 + 1)) a0_0 a0_1 a0_2 a0_3))))) else (if a0_0 ≥ a0_2 then (if ((rd_T32 t274 x68_3).f2) > ((rd_T32 t274 x68_3).f0) then (some false) else (if a0_1 ≤ a0_3 then (if ((rd_T32 t274 x68_3).f3) < ((rd_T32 t274 x68_3).f1) then (some false) else (if a0_1 ≥ a0_3 then (if ((rd_T32 t274 x68_3).f3) > ((rd_T32 t274 x68_3).f1) then (some false) else (pointillistlaw16_CellJoins.l0 kj40 t274 t274 (t274.length : Int) (wrap64 (x68_3 + 1)) a0_0 a0_1 a0_2 a0_3)) else (pointillistlaw16_CellJoins.l0 kj40 t274 t274 (t274.length : Int) (wrap64 (x68_3 + 1)) a0_0 a0_1 a0_2 a0_3))) else (if a0_1 ≥ a0_3 then (if ((rd_T32 t274 x68_3).f3) > ((rd_T32 t274 x68_3).f1) then (some false) else (pointillistlaw16_CellJoins.l0 kj40 t274 t274 (t274.length : Int) (wrap64 (x68_3 + 1)) a0_0 a0_1 a0_2 a0_3)) else (pointillistlaw16_CellJoins.l0 kj40 t274 t274 (t274.length : Int) (wrap64 (x68_3 + 1)) a0_0 a0_1 a0_2 a0_3)))) else (if a0_1 ≤ a0_3 then (if ((rd_T32 t274 x68_3).f3) < ((rd_T32 t274 x68_3).f1) then (some false) else (if a0_1 ≥ a0_3 then (if ((rd_T32 t274 x68_3).f3) > ((rd_T32 t274 x68_3).f1) then (some false) else (pointillistlaw16_CellJoins.l0 kj40 t274 t274 (t274.length : Int) (wrap64 (x68_3 + 1)) a0_0 a0_1 a0_2 a0_3)) else (pointillistlaw16_CellJoins.l0 kj40 t274 t274 (t274.length : Int) (wrap64 (x68_3 + 1)) a0_0 a0_1 a0_2 a0_3))) else (if a0_1 ≥ a0_3 then (if ((rd_T32 t274 x68_3).f3) > ((rd_T32 t274 x68_3).f1) then (some false) else (pointillistlaw16_CellJoins.l0 kj40 t274 t274 (t274.length : Int) (wrap64 (x68_3 + 1)) a0_0 a0_1 a0_2 a0_3)) else (pointillistlaw16_CellJoins.l0 kj40 t274 t274 (t274.length : Int) (wrap64 (x68_3 + 1)) a0_0 a0_1 a0_2 a0_3))))) = some r := by rw [if_neg (show ¬ (false = true) by decide)] at H; exact H
                clear H
                have H := H1
                clear H1
                by_cases c55 : a0_0 ≤ a0_2
                ·rw [if_pos c55] at H
                 have c55b0 : decide (a0_0 ≤ a0_2) = true := decide_eq_true c55
                 clear c55
                 by_cases c56 : ((rd_T32 t274 x68_3).f2) < ((rd_T32 t274 x68_3).f0)
                 ·rw [if_pos c56] at H
                  have c56b0 : decide (((rd_T32 t274 x68_3).f2) < ((rd_T32 t274 x68_3).f0)) = true := decide_eq_true c56
                  clear c56
                  as_aux_lemma =>
                   obtain rfl := Option.some.inj H
                   have hnb57 := NB271_282.out
                   have hnc57 := NB282_271.out
                   have hcz58_0 : wc.cell? ⟨gb271, 0, none⟩ = some (.int .i64 a0_0) := (blk_cell BK271.out 0).trans rfl
                   have hcz58_1 : wc.cell? ⟨gb271, 1, none⟩ = some (.int .i64 a0_1) := (blk_cell BK271.out 1).trans rfl
                   have hcz58_2 : wc.cell? ⟨gb271, 2, none⟩ = some (.int .i64 a0_2) := (blk_cell BK271.out 2).trans rfl
                   have hcz58_3 : wc.cell? ⟨gb271, 3, none⟩ = some (.int .i64 a0_3) := (blk_cell BK271.out 3).trans rfl
                   have hfz58_0 := blk_frozen BK271.out 0
                   have hfz58_1 := blk_frozen BK271.out 1
                   have hfz58_2 := blk_frozen BK271.out 2
                   have hfz58_3 := blk_frozen BK271.out 3
                   have hcz59_0 : wc.cell? ⟨gb282, 0, none⟩ = some (.int .i64 ((rd_T32 t274 x68_3).f0)) := (blk_cell BK282.out 0).trans rfl
                   have hcz59_1 : wc.cell? ⟨gb282, 1, none⟩ = some (.int .i64 ((rd_T32 t274 x68_3).f1)) := (blk_cell BK282.out 1).trans rfl
                   have hcz59_2 : wc.cell? ⟨gb282, 2, none⟩ = some (.int .i64 ((rd_T32 t274 x68_3).f2)) := (blk_cell BK282.out 2).trans rfl
                   have hcz59_3 : wc.cell? ⟨gb282, 3, none⟩ = some (.int .i64 ((rd_T32 t274 x68_3).f3)) := (blk_cell BK282.out 3).trans rfl
                   have hfz59_0 := blk_frozen BK282.out 0
                   have hfz59_1 := blk_frozen BK282.out 1
                   have hfz59_2 := blk_frozen BK282.out 2
                   have hfz59_3 := blk_frozen BK282.out 3
                   go_wp2
                   repeat (go_quiet (fail); try go_wp2)
                   go_ret
                   exact ⟨by first | rfl | (simp [errW_none, errW_some] <;> rfl) | (simp [*, errW_none, errW_some] <;> rfl), by repeat (first | (with_reducible first | exact HB.out | apply below_alloc | apply pw_below_drewN | apply below_drew1 | refine below_set ?_ GE271.out | refine below_set ?_ GE282.out) | exact HB.out)⟩
                 ·rw [if_neg c56] at H
                  have c56b0 : decide (((rd_T32 t274 x68_3).f2) < ((rd_T32 t274 x68_3).f0)) = false := decide_eq_false c56
                  clear c56
                  by_cases c60 : a0_0 ≥ a0_2
                  ·rw [if_pos c60] at H
                   have c60b0 : decide (a0_2 ≤ a0_0) = true := decide_eq_true c60
                   clear c60
                   by_cases c61 : ((rd_T32 t274 x68_3).f2) > ((rd_T32 t274 x68_3).f0)
                   ·rw [if_pos c61] at H
                    have c61b0 : decide (((rd_T32 t274 x68_3).f0) < ((rd_T32 t274 x68_3).f2)) = true := decide_eq_true c61
                    clear c61
                    as_aux_lemma =>
                     obtain rfl := Option.some.inj H
                     have hnb62 := NB271_282.out
                     have hnc62 := NB282_271.out
                     have hcz63_0 : wc.cell? ⟨gb271, 0, none⟩ = some (.int .i64 a0_0) := (blk_cell BK271.out 0).trans rfl
                     have hcz63_1 : wc.cell? ⟨gb271, 1, none⟩ = some (.int .i64 a0_1) := (blk_cell BK271.out 1).trans rfl
                     have hcz63_2 : wc.cell? ⟨gb271, 2, none⟩ = some (.int .i64 a0_2) := (blk_cell BK271.out 2).trans rfl
                     have hcz63_3 : wc.cell? ⟨gb271, 3, none⟩ = some (.int .i64 a0_3) := (blk_cell BK271.out 3).trans rfl
                     have hfz63_0 := blk_frozen BK271.out 0
                     have hfz63_1 := blk_frozen BK271.out 1
                     have hfz63_2 := blk_frozen BK271.out 2
                     have hfz63_3 := blk_frozen BK271.out 3
                     have hcz64_0 : wc.cell? ⟨gb282, 0, none⟩ = some (.int .i64 ((rd_T32 t274 x68_3).f0)) := (blk_cell BK282.out 0).trans rfl
                     have hcz64_1 : wc.cell? ⟨gb282, 1, none⟩ = some (.int .i64 ((rd_T32 t274 x68_3).f1)) := (blk_cell BK282.out 1).trans rfl
                     have hcz64_2 : wc.cell? ⟨gb282, 2, none⟩ = some (.int .i64 ((rd_T32 t274 x68_3).f2)) := (blk_cell BK282.out 2).trans rfl
                     have hcz64_3 : wc.cell? ⟨gb282, 3, none⟩ = some (.int .i64 ((rd_T32 t274 x68_3).f3)) := (blk_cell BK282.out 3).trans rfl
                     have hfz64_0 := blk_frozen BK282.out 0
                     have hfz64_1 := blk_frozen BK282.out 1
                     have hfz64_2 := blk_frozen BK282.out 2
                     have hfz64_3 := blk_frozen BK282.out 3
                     go_wp2
                     repeat (go_quiet (fail); try go_wp2)
                     go_ret
                     exact ⟨by first | rfl | (simp [errW_none, errW_some] <;> rfl) | (simp [*, errW_none, errW_some] <;> rfl), by repeat (first | (with_reducible first | exact HB.out | apply below_alloc | apply pw_below_drewN | apply below_drew1 | refine below_set ?_ GE271.out | refine below_set ?_ GE282.out) | exact HB.out)⟩
                   ·rw [if_neg c61] at H
                    have c61b0 : decide (((rd_T32 t274 x68_3).f0) < ((rd_T32 t274 x68_3).f2)) = false := decide_eq_false c61
                    clear c61
                    by_cases c65 : a0_1 ≤ a0_3
                    ·rw [if_pos c65] at H
                     have c65b0 : decide (a0_1 ≤ a0_3) = true := decide_eq_true c65
                     clear c65
                     by_cases c66 : ((rd_T32 t274 x68_3).f3) < ((rd_T32 t274 x68_3).f1)
                     ·rw [if_pos c66] at H
                      have c66b0 : decide (((rd_T32 t274 x68_3).f3) < ((rd_T32 t274 x68_3).f1)) = true := decide_eq_true c66
                      clear c66
                      as_aux_lemma =>
                       obtain rfl := Option.some.inj H
                       have hnb67 := NB271_282.out
                       have hnc67 := NB282_271.out
                       have hcz68_0 : wc.cell? ⟨gb271, 0, none⟩ = some (.int .i64 a0_0) := (blk_cell BK271.out 0).trans rfl
                       have hcz68_1 : wc.cell? ⟨gb271, 1, none⟩ = some (.int .i64 a0_1) := (blk_cell BK271.out 1).trans rfl
                       have hcz68_2 : wc.cell? ⟨gb271, 2, none⟩ = some (.int .i64 a0_2) := (blk_cell BK271.out 2).trans rfl
                       have hcz68_3 : wc.cell? ⟨gb271, 3, none⟩ = some (.int .i64 a0_3) := (blk_cell BK271.out 3).trans rfl
                       have hfz68_0 := blk_frozen BK271.out 0
                       have hfz68_1 := blk_frozen BK271.out 1
                       have hfz68_2 := blk_frozen BK271.out 2
                       have hfz68_3 := blk_frozen BK271.out 3
                       have hcz69_0 : wc.cell? ⟨gb282, 0, none⟩ = some (.int .i64 ((rd_T32 t274 x68_3).f0)) := (blk_cell BK282.out 0).trans rfl
                       have hcz69_1 : wc.cell? ⟨gb282, 1, none⟩ = some (.int .i64 ((rd_T32 t274 x68_3).f1)) := (blk_cell BK282.out 1).trans rfl
                       have hcz69_2 : wc.cell? ⟨gb282, 2, none⟩ = some (.int .i64 ((rd_T32 t274 x68_3).f2)) := (blk_cell BK282.out 2).trans rfl
                       have hcz69_3 : wc.cell? ⟨gb282, 3, none⟩ = some (.int .i64 ((rd_T32 t274 x68_3).f3)) := (blk_cell BK282.out 3).trans rfl
                       have hfz69_0 := blk_frozen BK282.out 0
                       have hfz69_1 := blk_frozen BK282.out 1
                       have hfz69_2 := blk_frozen BK282.out 2
                       have hfz69_3 := blk_frozen BK282.out 3
                       go_wp2
                       repeat (go_quiet (fail); try go_wp2)
                       go_ret
                       exact ⟨by first | rfl | (simp [errW_none, errW_some] <;> rfl) | (simp [*, errW_none, errW_some] <;> rfl), by repeat (first | (with_reducible first | exact HB.out | apply below_alloc | apply pw_below_drewN | apply below_drew1 | refine below_set ?_ GE271.out | refine below_set ?_ GE282.out) | exact HB.out)⟩
                     ·rw [if_neg c66] at H
                      have c66b0 : decide (((rd_T32 t274 x68_3).f3) < ((rd_T32 t274 x68_3).f1)) = false := decide_eq_false c66
                      clear c66
                      by_cases c70 : a0_1 ≥ a0_3
                      ·rw [if_pos c70] at H
                       have c70b0 : decide (a0_3 ≤ a0_1) = true := decide_eq_true c70
                       clear c70
                       by_cases c71 : ((rd_T32 t274 x68_3).f3) > ((rd_T32 t274 x68_3).f1)
                       ·rw [if_pos c71] at H
                        have c71b0 : decide (((rd_T32 t274 x68_3).f1) < ((rd_T32 t274 x68_3).f3)) = true := decide_eq_true c71
                        clear c71
                        as_aux_lemma =>
                         obtain rfl := Option.some.inj H
                         have hnb72 := NB271_282.out
                         have hnc72 := NB282_271.out
                         have hcz73_0 : wc.cell? ⟨gb271, 0, none⟩ = some (.int .i64 a0_0) := (blk_cell BK271.out 0).trans rfl
                         have hcz73_1 : wc.cell? ⟨gb271, 1, none⟩ = some (.int .i64 a0_1) := (blk_cell BK271.out 1).trans rfl
                         have hcz73_2 : wc.cell? ⟨gb271, 2, none⟩ = some (.int .i64 a0_2) := (blk_cell BK271.out 2).trans rfl
                         have hcz73_3 : wc.cell? ⟨gb271, 3, none⟩ = some (.int .i64 a0_3) := (blk_cell BK271.out 3).trans rfl
                         have hfz73_0 := blk_frozen BK271.out 0
                         have hfz73_1 := blk_frozen BK271.out 1
                         have hfz73_2 := blk_frozen BK271.out 2
                         have hfz73_3 := blk_frozen BK271.out 3
                         have hcz74_0 : wc.cell? ⟨gb282, 0, none⟩ = some (.int .i64 ((rd_T32 t274 x68_3).f0)) := (blk_cell BK282.out 0).trans rfl
                         have hcz74_1 : wc.cell? ⟨gb282, 1, none⟩ = some (.int .i64 ((rd_T32 t274 x68_3).f1)) := (blk_cell BK282.out 1).trans rfl
                         have hcz74_2 : wc.cell? ⟨gb282, 2, none⟩ = some (.int .i64 ((rd_T32 t274 x68_3).f2)) := (blk_cell BK282.out 2).trans rfl
                         have hcz74_3 : wc.cell? ⟨gb282, 3, none⟩ = some (.int .i64 ((rd_T32 t274 x68_3).f3)) := (blk_cell BK282.out 3).trans rfl
                         have hfz74_0 := blk_frozen BK282.out 0
                         have hfz74_1 := blk_frozen BK282.out 1
                         have hfz74_2 := blk_frozen BK282.out 2
                         have hfz74_3 := blk_frozen BK282.out 3
                         go_wp2
                         repeat (go_quiet (fail); try go_wp2)
                         go_ret
                         exact ⟨by first | rfl | (simp [errW_none, errW_some] <;> rfl) | (simp [*, errW_none, errW_some] <;> rfl), by repeat (first | (with_reducible first | exact HB.out | apply below_alloc | apply pw_below_drewN | apply below_drew1 | refine below_set ?_ GE271.out | refine below_set ?_ GE282.out) | exact HB.out)⟩
                       ·rw [if_neg c71] at H
                        have c71b0 : decide (((rd_T32 t274 x68_3).f1) < ((rd_T32 t274 x68_3).f3)) = false := decide_eq_false c71
                        clear c71
                        as_aux_lemma =>
                         have H' := Aside0.mk H
                         clear H
                         have hnb75 := NB271_282.out
                         have hnc75 := NB282_271.out
                         have hcz76_0 : wc.cell? ⟨gb271, 0, none⟩ = some (.int .i64 a0_0) := (blk_cell BK271.out 0).trans rfl
                         have hcz76_1 : wc.cell? ⟨gb271, 1, none⟩ = some (.int .i64 a0_1) := (blk_cell BK271.out 1).trans rfl
                         have hcz76_2 : wc.cell? ⟨gb271, 2, none⟩ = some (.int .i64 a0_2) := (blk_cell BK271.out 2).trans rfl
                         have hcz76_3 : wc.cell? ⟨gb271, 3, none⟩ = some (.int .i64 a0_3) := (blk_cell BK271.out 3).trans rfl
                         have hfz76_0 := blk_frozen BK271.out 0
                         have hfz76_1 := blk_frozen BK271.out 1
                         have hfz76_2 := blk_frozen BK271.out 2
                         have hfz76_3 := blk_frozen BK271.out 3
                         have hcz77_0 : wc.cell? ⟨gb282, 0, none⟩ = some (.int .i64 ((rd_T32 t274 x68_3).f0)) := (blk_cell BK282.out 0).trans rfl
                         have hcz77_1 : wc.cell? ⟨gb282, 1, none⟩ = some (.int .i64 ((rd_T32 t274 x68_3).f1)) := (blk_cell BK282.out 1).trans rfl
                         have hcz77_2 : wc.cell? ⟨gb282, 2, none⟩ = some (.int .i64 ((rd_T32 t274 x68_3).f2)) := (blk_cell BK282.out 2).trans rfl
                         have hcz77_3 : wc.cell? ⟨gb282, 3, none⟩ = some (.int .i64 ((rd_T32 t274 x68_3).f3)) := (blk_cell BK282.out 3).trans rfl
                         have hfz77_0 := blk_frozen BK282.out 0
                         have hfz77_1 := blk_frozen BK282.out 1
                         have hfz77_2 := blk_frozen BK282.out 2
                         have hfz77_3 := blk_frozen BK282.out 3
                         go_wp2
                         repeat (go_quiet (fail); try go_wp2)
                         go_roundg kj40
                         case measure => have := HJ4.out; have := HJ15.out; have := HK3.out; have := HJ40.out; omega
                         case rel => exact ⟨(wrap64 (x68_3 + 1)), (by first | rfl | (simp; done) | (simp [*]; done)), H', ⟨by have := HJ4.out; have := HJ15.out; have := HK3.out; have := HJ40.out; omega⟩, ⟨by (with_reducible repeat (first | apply Kd.R_alloc | apply Kd.R_drewN | apply Kd.R_drew)); exact Kd.R_mono HO_5.out (fun _ hk => hk.1)⟩, ⟨by (with_reducible repeat (first | apply Kd.R_alloc | apply Kd.R_drewN | apply Kd.R_drew)); exact Kd.R_mono HO_66.out (fun _ hk => hk.1)⟩, ⟨by (with_reducible repeat (first | refine blk_drewN ?_ _ | refine blk_drew ?_ | refine blk_alloc ?_ _)); exact BK271.out⟩, ⟨by repeat (first | (with_reducible first | exact HB.out | apply below_alloc | apply pw_below_drewN | apply below_drew1 | refine below_set ?_ GE271.out | refine below_set ?_ GE282.out) | exact HB.out)⟩⟩
                      ·rw [if_neg c70] at H
                       have c70b0 : decide (a0_3 ≤ a0_1) = false := decide_eq_false c70
                       clear c70
                       as_aux_lemma =>
                        have H' := Aside0.mk H
                        clear H
                        have hnb78 := NB271_282.out
                        have hnc78 := NB282_271.out
                        have hcz79_0 : wc.cell? ⟨gb271, 0, none⟩ = some (.int .i64 a0_0) := (blk_cell BK271.out 0).trans rfl
                        have hcz79_1 : wc.cell? ⟨gb271, 1, none⟩ = some (.int .i64 a0_1) := (blk_cell BK271.out 1).trans rfl
                        have hcz79_2 : wc.cell? ⟨gb271, 2, none⟩ = some (.int .i64 a0_2) := (blk_cell BK271.out 2).trans rfl
                        have hcz79_3 : wc.cell? ⟨gb271, 3, none⟩ = some (.int .i64 a0_3) := (blk_cell BK271.out 3).trans rfl
                        have hfz79_0 := blk_frozen BK271.out 0
                        have hfz79_1 := blk_frozen BK271.out 1
                        have hfz79_2 := blk_frozen BK271.out 2
                        have hfz79_3 := blk_frozen BK271.out 3
                        have hcz80_0 : wc.cell? ⟨gb282, 0, none⟩ = some (.int .i64 ((rd_T32 t274 x68_3).f0)) := (blk_cell BK282.out 0).trans rfl
                        have hcz80_1 : wc.cell? ⟨gb282, 1, none⟩ = some (.int .i64 ((rd_T32 t274 x68_3).f1)) := (blk_cell BK282.out 1).trans rfl
                        have hcz80_2 : wc.cell? ⟨gb282, 2, none⟩ = some (.int .i64 ((rd_T32 t274 x68_3).f2)) := (blk_cell BK282.out 2).trans rfl
                        have hcz80_3 : wc.cell? ⟨gb282, 3, none⟩ = some (.int .i64 ((rd_T32 t274 x68_3).f3)) := (blk_cell BK282.out 3).trans rfl
                        have hfz80_0 := blk_frozen BK282.out 0
                        have hfz80_1 := blk_frozen BK282.out 1
                        have hfz80_2 := blk_frozen BK282.out 2
                        have hfz80_3 := blk_frozen BK282.out 3
                        go_wp2
                        repeat (go_quiet (fail); try go_wp2)
                        go_roundg kj40
                        case measure => have := HJ4.out; have := HJ15.out; have := HK3.out; have := HJ40.out; omega
                        case rel => exact ⟨(wrap64 (x68_3 + 1)), (by first | rfl | (simp; done) | (simp [*]; done)), H', ⟨by have := HJ4.out; have := HJ15.out; have := HK3.out; have := HJ40.out; omega⟩, ⟨by (with_reducible repeat (first | apply Kd.R_alloc | apply Kd.R_drewN | apply Kd.R_drew)); exact Kd.R_mono HO_5.out (fun _ hk => hk.1)⟩, ⟨by (with_reducible repeat (first | apply Kd.R_alloc | apply Kd.R_drewN | apply Kd.R_drew)); exact Kd.R_mono HO_66.out (fun _ hk => hk.1)⟩, ⟨by (with_reducible repeat (first | refine blk_drewN ?_ _ | refine blk_drew ?_ | refine blk_alloc ?_ _)); exact BK271.out⟩, ⟨by repeat (first | (with_reducible first | exact HB.out | apply below_alloc | apply pw_below_drewN | apply below_drew1 | refine below_set ?_ GE271.out | refine below_set ?_ GE282.out) | exact HB.out)⟩⟩
                    ·rw [if_neg c65] at H
                     have c65b0 : decide (a0_1 ≤ a0_3) = false := decide_eq_false c65
                     clear c65
                     by_cases c81 : a0_1 ≥ a0_3
                     ·rw [if_pos c81] at H
                      have c81b0 : decide (a0_3 ≤ a0_1) = true := decide_eq_true c81
                      clear c81
                      by_cases c82 : ((rd_T32 t274 x68_3).f3) > ((rd_T32 t274 x68_3).f1)
                      ·rw [if_pos c82] at H
                       have c82b0 : decide (((rd_T32 t274 x68_3).f1) < ((rd_T32 t274 x68_3).f3)) = true := decide_eq_true c82
                       clear c82
                       as_aux_lemma =>
                        obtain rfl := Option.some.inj H
                        have hnb83 := NB271_282.out
                        have hnc83 := NB282_271.out
                        have hcz84_0 : wc.cell? ⟨gb271, 0, none⟩ = some (.int .i64 a0_0) := (blk_cell BK271.out 0).trans rfl
                        have hcz84_1 : wc.cell? ⟨gb271, 1, none⟩ = some (.int .i64 a0_1) := (blk_cell BK271.out 1).trans rfl
                        have hcz84_2 : wc.cell? ⟨gb271, 2, none⟩ = some (.int .i64 a0_2) := (blk_cell BK271.out 2).trans rfl
                        have hcz84_3 : wc.cell? ⟨gb271, 3, none⟩ = some (.int .i64 a0_3) := (blk_cell BK271.out 3).trans rfl
                        have hfz84_0 := blk_frozen BK271.out 0
                        have hfz84_1 := blk_frozen BK271.out 1
                        have hfz84_2 := blk_frozen BK271.out 2
                        have hfz84_3 := blk_frozen BK271.out 3
                        have hcz85_0 : wc.cell? ⟨gb282, 0, none⟩ = some (.int .i64 ((rd_T32 t274 x68_3).f0)) := (blk_cell BK282.out 0).trans rfl
                        have hcz85_1 : wc.cell? ⟨gb282, 1, none⟩ = some (.int .i64 ((rd_T32 t274 x68_3).f1)) := (blk_cell BK282.out 1).trans rfl
                        have hcz85_2 : wc.cell? ⟨gb282, 2, none⟩ = some (.int .i64 ((rd_T32 t274 x68_3).f2)) := (blk_cell BK282.out 2).trans rfl
                        have hcz85_3 : wc.cell? ⟨gb282, 3, none⟩ = some (.int .i64 ((rd_T32 t274 x68_3).f3)) := (blk_cell BK282.out 3).trans rfl
                        have hfz85_0 := blk_frozen BK282.out 0
                        have hfz85_1 := blk_frozen BK282.out 1
                        have hfz85_2 := blk_frozen BK282.out 2
                        have hfz85_3 := blk_frozen BK282.out 3
                        go_wp2
                        repeat (go_quiet (fail); try go_wp2)
                        go_ret
                        exact ⟨by first | rfl | (simp [errW_none, errW_some] <;> rfl) | (simp [*, errW_none, errW_some] <;> rfl), by repeat (first | (with_reducible first | exact HB.out | apply below_alloc | apply pw_below_drewN | apply below_drew1 | refine below_set ?_ GE271.out | refine below_set ?_ GE282.out) | exact HB.out)⟩
                      ·rw [if_neg c82] at H
                       have c82b0 : decide (((rd_T32 t274 x68_3).f1) < ((rd_T32 t274 x68_3).f3)) = false := decide_eq_false c82
                       clear c82
                       as_aux_lemma =>
                        have H' := Aside0.mk H
                        clear H
                        have hnb86 := NB271_282.out
                        have hnc86 := NB282_271.out
                        have hcz87_0 : wc.cell? ⟨gb271, 0, none⟩ = some (.int .i64 a0_0) := (blk_cell BK271.out 0).trans rfl
                        have hcz87_1 : wc.cell? ⟨gb271, 1, none⟩ = some (.int .i64 a0_1) := (blk_cell BK271.out 1).trans rfl
                        have hcz87_2 : wc.cell? ⟨gb271, 2, none⟩ = some (.int .i64 a0_2) := (blk_cell BK271.out 2).trans rfl
                        have hcz87_3 : wc.cell? ⟨gb271, 3, none⟩ = some (.int .i64 a0_3) := (blk_cell BK271.out 3).trans rfl
                        have hfz87_0 := blk_frozen BK271.out 0
                        have hfz87_1 := blk_frozen BK271.out 1
                        have hfz87_2 := blk_frozen BK271.out 2
                        have hfz87_3 := blk_frozen BK271.out 3
                        have hcz88_0 : wc.cell? ⟨gb282, 0, none⟩ = some (.int .i64 ((rd_T32 t274 x68_3).f0)) := (blk_cell BK282.out 0).trans rfl
                        have hcz88_1 : wc.cell? ⟨gb282, 1, none⟩ = some (.int .i64 ((rd_T32 t274 x68_3).f1)) := (blk_cell BK282.out 1).trans rfl
                        have hcz88_2 : wc.cell? ⟨gb282, 2, none⟩ = some (.int .i64 ((rd_T32 t274 x68_3).f2)) := (blk_cell BK282.out 2).trans rfl
                        have hcz88_3 : wc.cell? ⟨gb282, 3, none⟩ = some (.int .i64 ((rd_T32 t274 x68_3).f3)) := (blk_cell BK282.out 3).trans rfl
                        have hfz88_0 := blk_frozen BK282.out 0
                        have hfz88_1 := blk_frozen BK282.out 1
                        have hfz88_2 := blk_frozen BK282.out 2
                        have hfz88_3 := blk_frozen BK282.out 3
                        go_wp2
                        repeat (go_quiet (fail); try go_wp2)
                        go_roundg kj40
                        case measure => have := HJ4.out; have := HJ15.out; have := HK3.out; have := HJ40.out; omega
                        case rel => exact ⟨(wrap64 (x68_3 + 1)), (by first | rfl | (simp; done) | (simp [*]; done)), H', ⟨by have := HJ4.out; have := HJ15.out; have := HK3.out; have := HJ40.out; omega⟩, ⟨by (with_reducible repeat (first | apply Kd.R_alloc | apply Kd.R_drewN | apply Kd.R_drew)); exact Kd.R_mono HO_5.out (fun _ hk => hk.1)⟩, ⟨by (with_reducible repeat (first | apply Kd.R_alloc | apply Kd.R_drewN | apply Kd.R_drew)); exact Kd.R_mono HO_66.out (fun _ hk => hk.1)⟩, ⟨by (with_reducible repeat (first | refine blk_drewN ?_ _ | refine blk_drew ?_ | refine blk_alloc ?_ _)); exact BK271.out⟩, ⟨by repeat (first | (with_reducible first | exact HB.out | apply below_alloc | apply pw_below_drewN | apply below_drew1 | refine below_set ?_ GE271.out | refine below_set ?_ GE282.out) | exact HB.out)⟩⟩
                     ·rw [if_neg c81] at H
                      have c81b0 : decide (a0_3 ≤ a0_1) = false := decide_eq_false c81
                      clear c81
                      as_aux_lemma =>
                       have H' := Aside0.mk H
                       clear H
                       have hnb89 := NB271_282.out
                       have hnc89 := NB282_271.out
                       have hcz90_0 : wc.cell? ⟨gb271, 0, none⟩ = some (.int .i64 a0_0) := (blk_cell BK271.out 0).trans rfl
                       have hcz90_1 : wc.cell? ⟨gb271, 1, none⟩ = some (.int .i64 a0_1) := (blk_cell BK271.out 1).trans rfl
                       have hcz90_2 : wc.cell? ⟨gb271, 2, none⟩ = some (.int .i64 a0_2) := (blk_cell BK271.out 2).trans rfl
                       have hcz90_3 : wc.cell? ⟨gb271, 3, none⟩ = some (.int .i64 a0_3) := (blk_cell BK271.out 3).trans rfl
                       have hfz90_0 := blk_frozen BK271.out 0
                       have hfz90_1 := blk_frozen BK271.out 1
                       have hfz90_2 := blk_frozen BK271.out 2
                       have hfz90_3 := blk_frozen BK271.out 3
                       have hcz91_0 : wc.cell? ⟨gb282, 0, none⟩ = some (.int .i64 ((rd_T32 t274 x68_3).f0)) := (blk_cell BK282.out 0).trans rfl
                       have hcz91_1 : wc.cell? ⟨gb282, 1, none⟩ = some (.int .i64 ((rd_T32 t274 x68_3).f1)) := (blk_cell BK282.out 1).trans rfl
                       have hcz91_2 : wc.cell? ⟨gb282, 2, none⟩ = some (.int .i64 ((rd_T32 t274 x68_3).f2)) := (blk_cell BK282.out 2).trans rfl
                       have hcz91_3 : wc.cell? ⟨gb282, 3, none⟩ = some (.int .i64 ((rd_T32 t274 x68_3).f3)) := (blk_cell BK282.out 3).trans rfl
                       have hfz91_0 := blk_frozen BK282.out 0
                       have hfz91_1 := blk_frozen BK282.out 1
                       have hfz91_2 := blk_frozen BK282.out 2
                       have hfz91_3 := blk_frozen BK282.out 3
                       go_wp2
                       repeat (go_quiet (fail); try go_wp2)
                       go_roundg kj40
                       case measure => have := HJ4.out; have := HJ15.out; have := HK3.out; have := HJ40.out; omega
                       case rel => exact ⟨(wrap64 (x68_3 + 1)), (by first | rfl | (simp; done) | (simp [*]; done)), H', ⟨by have := HJ4.out; have := HJ15.out; have := HK3.out; have := HJ40.out; omega⟩, ⟨by (with_reducible repeat (first | apply Kd.R_alloc | apply Kd.R_drewN | apply Kd.R_drew)); exact Kd.R_mono HO_5.out (fun _ hk => hk.1)⟩, ⟨by (with_reducible repeat (first | apply Kd.R_alloc | apply Kd.R_drewN | apply Kd.R_drew)); exact Kd.R_mono HO_66.out (fun _ hk => hk.1)⟩, ⟨by (with_reducible repeat (first | refine blk_drewN ?_ _ | refine blk_drew ?_ | refine blk_alloc ?_ _)); exact BK271.out⟩, ⟨by repeat (first | (with_reducible first | exact HB.out | apply below_alloc | apply pw_below_drewN | apply below_drew1 | refine below_set ?_ GE271.out | refine below_set ?_ GE282.out) | exact HB.out)⟩⟩
                  ·rw [if_neg c60] at H
                   have c60b0 : decide (a0_2 ≤ a0_0) = false := decide_eq_false c60
                   clear c60
                   by_cases c92 : a0_1 ≤ a0_3
                   ·rw [if_pos c92] at H
                    have c92b0 : decide (a0_1 ≤ a0_3) = true := decide_eq_true c92
                    clear c92
                    by_cases c93 : ((rd_T32 t274 x68_3).f3) < ((rd_T32 t274 x68_3).f1)
                    ·rw [if_pos c93] at H
                     have c93b0 : decide (((rd_T32 t274 x68_3).f3) < ((rd_T32 t274 x68_3).f1)) = true := decide_eq_true c93
                     clear c93
                     as_aux_lemma =>
                      obtain rfl := Option.some.inj H
                      have hnb94 := NB271_282.out
                      have hnc94 := NB282_271.out
                      have hcz95_0 : wc.cell? ⟨gb271, 0, none⟩ = some (.int .i64 a0_0) := (blk_cell BK271.out 0).trans rfl
                      have hcz95_1 : wc.cell? ⟨gb271, 1, none⟩ = some (.int .i64 a0_1) := (blk_cell BK271.out 1).trans rfl
                      have hcz95_2 : wc.cell? ⟨gb271, 2, none⟩ = some (.int .i64 a0_2) := (blk_cell BK271.out 2).trans rfl
                      have hcz95_3 : wc.cell? ⟨gb271, 3, none⟩ = some (.int .i64 a0_3) := (blk_cell BK271.out 3).trans rfl
                      have hfz95_0 := blk_frozen BK271.out 0
                      have hfz95_1 := blk_frozen BK271.out 1
                      have hfz95_2 := blk_frozen BK271.out 2
                      have hfz95_3 := blk_frozen BK271.out 3
                      have hcz96_0 : wc.cell? ⟨gb282, 0, none⟩ = some (.int .i64 ((rd_T32 t274 x68_3).f0)) := (blk_cell BK282.out 0).trans rfl
                      have hcz96_1 : wc.cell? ⟨gb282, 1, none⟩ = some (.int .i64 ((rd_T32 t274 x68_3).f1)) := (blk_cell BK282.out 1).trans rfl
                      have hcz96_2 : wc.cell? ⟨gb282, 2, none⟩ = some (.int .i64 ((rd_T32 t274 x68_3).f2)) := (blk_cell BK282.out 2).trans rfl
                      have hcz96_3 : wc.cell? ⟨gb282, 3, none⟩ = some (.int .i64 ((rd_T32 t274 x68_3).f3)) := (blk_cell BK282.out 3).trans rfl
                      have hfz96_0 := blk_frozen BK282.out 0
                      have hfz96_1 := blk_frozen BK282.out 1
                      have hfz96_2 := blk_frozen BK282.out 2
                      have hfz96_3 := blk_frozen BK282.out 3
                      go_wp2
                      repeat (go_quiet (fail); try go_wp2)
                      go_ret
                      exact ⟨by first | rfl | (simp [errW_none, errW_some] <;> rfl) | (simp [*, errW_none, errW_some] <;> rfl), by repeat (first | (with_reducible first | exact HB.out | apply below_alloc | apply pw_below_drewN | apply below_drew1 | refine below_set ?_ GE271.out | refine below_set ?_ GE282.out) | exact HB.out)⟩
                    ·rw [if_neg c93] at H
                     have c93b0 : decide (((rd_T32 t274 x68_3).f3) < ((rd_T32 t274 x68_3).f1)) = false := decide_eq_false c93
                     clear c93
                     by_cases c97 : a0_1 ≥ a0_3
                     ·rw [if_pos c97] at H
                      have c97b0 : decide (a0_3 ≤ a0_1) = true := decide_eq_true c97
                      clear c97
                      by_cases c98 : ((rd_T32 t274 x68_3).f3) > ((rd_T32 t274 x68_3).f1)
                      ·rw [if_pos c98] at H
                       have c98b0 : decide (((rd_T32 t274 x68_3).f1) < ((rd_T32 t274 x68_3).f3)) = true := decide_eq_true c98
                       clear c98
                       as_aux_lemma =>
                        obtain rfl := Option.some.inj H
                        have hnb99 := NB271_282.out
                        have hnc99 := NB282_271.out
                        have hcz100_0 : wc.cell? ⟨gb271, 0, none⟩ = some (.int .i64 a0_0) := (blk_cell BK271.out 0).trans rfl
                        have hcz100_1 : wc.cell? ⟨gb271, 1, none⟩ = some (.int .i64 a0_1) := (blk_cell BK271.out 1).trans rfl
                        have hcz100_2 : wc.cell? ⟨gb271, 2, none⟩ = some (.int .i64 a0_2) := (blk_cell BK271.out 2).trans rfl
                        have hcz100_3 : wc.cell? ⟨gb271, 3, none⟩ = some (.int .i64 a0_3) := (blk_cell BK271.out 3).trans rfl
                        have hfz100_0 := blk_frozen BK271.out 0
                        have hfz100_1 := blk_frozen BK271.out 1
                        have hfz100_2 := blk_frozen BK271.out 2
                        have hfz100_3 := blk_frozen BK271.out 3
                        have hcz101_0 : wc.cell? ⟨gb282, 0, none⟩ = some (.int .i64 ((rd_T32 t274 x68_3).f0)) := (blk_cell BK282.out 0).trans rfl
                        have hcz101_1 : wc.cell? ⟨gb282, 1, none⟩ = some (.int .i64 ((rd_T32 t274 x68_3).f1)) := (blk_cell BK282.out 1).trans rfl
                        have hcz101_2 : wc.cell? ⟨gb282, 2, none⟩ = some (.int .i64 ((rd_T32 t274 x68_3).f2)) := (blk_cell BK282.out 2).trans rfl
                        have hcz101_3 : wc.cell? ⟨gb282, 3, none⟩ = some (.int .i64 ((rd_T32 t274 x68_3).f3)) := (blk_cell BK282.out 3).trans rfl
                        have hfz101_0 := blk_frozen BK282.out 0
                        have hfz101_1 := blk_frozen BK282.out 1
                        have hfz101_2 := blk_frozen BK282.out 2
                        have hfz101_3 := blk_frozen BK282.out 3
                        go_wp2
                        repeat (go_quiet (fail); try go_wp2)
                        go_ret
                        exact ⟨by first | rfl | (simp [errW_none, errW_some] <;> rfl) | (simp [*, errW_none, errW_some] <;> rfl), by repeat (first | (with_reducible first | exact HB.out | apply below_alloc | apply pw_below_drewN | apply below_drew1 | refine below_set ?_ GE271.out | refine below_set ?_ GE282.out) | exact HB.out)⟩
                      ·rw [if_neg c98] at H
                       have c98b0 : decide (((rd_T32 t274 x68_3).f1) < ((rd_T32 t274 x68_3).f3)) = false := decide_eq_false c98
                       clear c98
                       as_aux_lemma =>
                        have H' := Aside0.mk H
                        clear H
                        have hnb102 := NB271_282.out
                        have hnc102 := NB282_271.out
                        have hcz103_0 : wc.cell? ⟨gb271, 0, none⟩ = some (.int .i64 a0_0) := (blk_cell BK271.out 0).trans rfl
                        have hcz103_1 : wc.cell? ⟨gb271, 1, none⟩ = some (.int .i64 a0_1) := (blk_cell BK271.out 1).trans rfl
                        have hcz103_2 : wc.cell? ⟨gb271, 2, none⟩ = some (.int .i64 a0_2) := (blk_cell BK271.out 2).trans rfl
                        have hcz103_3 : wc.cell? ⟨gb271, 3, none⟩ = some (.int .i64 a0_3) := (blk_cell BK271.out 3).trans rfl
                        have hfz103_0 := blk_frozen BK271.out 0
                        have hfz103_1 := blk_frozen BK271.out 1
                        have hfz103_2 := blk_frozen BK271.out 2
                        have hfz103_3 := blk_frozen BK271.out 3
                        have hcz104_0 : wc.cell? ⟨gb282, 0, none⟩ = some (.int .i64 ((rd_T32 t274 x68_3).f0)) := (blk_cell BK282.out 0).trans rfl
                        have hcz104_1 : wc.cell? ⟨gb282, 1, none⟩ = some (.int .i64 ((rd_T32 t274 x68_3).f1)) := (blk_cell BK282.out 1).trans rfl
                        have hcz104_2 : wc.cell? ⟨gb282, 2, none⟩ = some (.int .i64 ((rd_T32 t274 x68_3).f2)) := (blk_cell BK282.out 2).trans rfl
                        have hcz104_3 : wc.cell? ⟨gb282, 3, none⟩ = some (.int .i64 ((rd_T32 t274 x68_3).f3)) := (blk_cell BK282.out 3).trans rfl
                        have hfz104_0 := blk_frozen BK282.out 0
                        have hfz104_1 := blk_frozen BK282.out 1
                        have hfz104_2 := blk_frozen BK282.out 2
                        have hfz104_3 := blk_frozen BK282.out 3
                        go_wp2
                        repeat (go_quiet (fail); try go_wp2)
                        go_roundg kj40
                        case measure => have := HJ4.out; have := HJ15.out; have := HK3.out; have := HJ40.out; omega
                        case rel => exact ⟨(wrap64 (x68_3 + 1)), (by first | rfl | (simp; done) | (simp [*]; done)), H', ⟨by have := HJ4.out; have := HJ15.out; have := HK3.out; have := HJ40.out; omega⟩, ⟨by (with_reducible repeat (first | apply Kd.R_alloc | apply Kd.R_drewN | apply Kd.R_drew)); exact Kd.R_mono HO_5.out (fun _ hk => hk.1)⟩, ⟨by (with_reducible repeat (first | apply Kd.R_alloc | apply Kd.R_drewN | apply Kd.R_drew)); exact Kd.R_mono HO_66.out (fun _ hk => hk.1)⟩, ⟨by (with_reducible repeat (first | refine blk_drewN ?_ _ | refine blk_drew ?_ | refine blk_alloc ?_ _)); exact BK271.out⟩, ⟨by repeat (first | (with_reducible first | exact HB.out | apply below_alloc | apply pw_below_drewN | apply below_drew1 | refine below_set ?_ GE271.out | refine below_set ?_ GE282.out) | exact HB.out)⟩⟩
                     ·rw [if_neg c97] at H
                      have c97b0 : decide (a0_3 ≤ a0_1) = false := decide_eq_false c97
                      clear c97
                      as_aux_lemma =>
                       have H' := Aside0.mk H
                       clear H
                       have hnb105 := NB271_282.out
                       have hnc105 := NB282_271.out
                       have hcz106_0 : wc.cell? ⟨gb271, 0, none⟩ = some (.int .i64 a0_0) := (blk_cell BK271.out 0).trans rfl
                       have hcz106_1 : wc.cell? ⟨gb271, 1, none⟩ = some (.int .i64 a0_1) := (blk_cell BK271.out 1).trans rfl
                       have hcz106_2 : wc.cell? ⟨gb271, 2, none⟩ = some (.int .i64 a0_2) := (blk_cell BK271.out 2).trans rfl
                       have hcz106_3 : wc.cell? ⟨gb271, 3, none⟩ = some (.int .i64 a0_3) := (blk_cell BK271.out 3).trans rfl
                       have hfz106_0 := blk_frozen BK271.out 0
                       have hfz106_1 := blk_frozen BK271.out 1
                       have hfz106_2 := blk_frozen BK271.out 2
                       have hfz106_3 := blk_frozen BK271.out 3
                       have hcz107_0 : wc.cell? ⟨gb282, 0, none⟩ = some (.int .i64 ((rd_T32 t274 x68_3).f0)) := (blk_cell BK282.out 0).trans rfl
                       have hcz107_1 : wc.cell? ⟨gb282, 1, none⟩ = some (.int .i64 ((rd_T32 t274 x68_3).f1)) := (blk_cell BK282.out 1).trans rfl
                       have hcz107_2 : wc.cell? ⟨gb282, 2, none⟩ = some (.int .i64 ((rd_T32 t274 x68_3).f2)) := (blk_cell BK282.out 2).trans rfl
                       have hcz107_3 : wc.cell? ⟨gb282, 3, none⟩ = some (.int .i64 ((rd_T32 t274 x68_3).f3)) := (blk_cell BK282.out 3).trans rfl
                       have hfz107_0 := blk_frozen BK282.out 0
                       have hfz107_1 := blk_frozen BK282.out 1
                       have hfz107_2 := blk_frozen BK282.out 2
                       have hfz107_3 := blk_frozen BK282.out 3
                       go_wp2
                       repeat (go_quiet (fail); try go_wp2)
                       go_roundg kj40
                       case measure => have := HJ4.out; have := HJ15.out; have := HK3.out; have := HJ40.out; omega
                       case rel => exact ⟨(wrap64 (x68_3 + 1)), (by first | rfl | (simp; done) | (simp [*]; done)), H', ⟨by have := HJ4.out; have := HJ15.out; have := HK3.out; have := HJ40.out; omega⟩, ⟨by (with_reducible repeat (first | apply Kd.R_alloc | apply Kd.R_drewN | apply Kd.R_drew)); exact Kd.R_mono HO_5.out (fun _ hk => hk.1)⟩, ⟨by (with_reducible repeat (first | apply Kd.R_alloc | apply Kd.R_drewN | apply Kd.R_drew)); exact Kd.R_mono HO_66.out (fun _ hk => hk.1)⟩, ⟨by (with_reducible repeat (first | refine blk_drewN ?_ _ | refine blk_drew ?_ | refine blk_alloc ?_ _)); exact BK271.out⟩, ⟨by repeat (first | (with_reducible first | exact HB.out | apply below_alloc | apply pw_below_drewN | apply below_drew1 | refine below_set ?_ GE271.out | refine below_set ?_ GE282.out) | exact HB.out)⟩⟩
                   ·rw [if_neg c92] at H
                    have c92b0 : decide (a0_1 ≤ a0_3) = false := decide_eq_false c92
                    clear c92
                    by_cases c108 : a0_1 ≥ a0_3
                    ·rw [if_pos c108] at H
                     have c108b0 : decide (a0_3 ≤ a0_1) = true := decide_eq_true c108
                     clear c108
                     by_cases c109 : ((rd_T32 t274 x68_3).f3) > ((rd_T32 t274 x68_3).f1)
                     ·rw [if_pos c109] at H
                      have c109b0 : decide (((rd_T32 t274 x68_3).f1) < ((rd_T32 t274 x68_3).f3)) = true := decide_eq_true c109
                      clear c109
                      as_aux_lemma =>
                       obtain rfl := Option.some.inj H
                       have hnb110 := NB271_282.out
                       have hnc110 := NB282_271.out
                       have hcz111_0 : wc.cell? ⟨gb271, 0, none⟩ = some (.int .i64 a0_0) := (blk_cell BK271.out 0).trans rfl
                       have hcz111_1 : wc.cell? ⟨gb271, 1, none⟩ = some (.int .i64 a0_1) := (blk_cell BK271.out 1).trans rfl
                       have hcz111_2 : wc.cell? ⟨gb271, 2, none⟩ = some (.int .i64 a0_2) := (blk_cell BK271.out 2).trans rfl
                       have hcz111_3 : wc.cell? ⟨gb271, 3, none⟩ = some (.int .i64 a0_3) := (blk_cell BK271.out 3).trans rfl
                       have hfz111_0 := blk_frozen BK271.out 0
                       have hfz111_1 := blk_frozen BK271.out 1
                       have hfz111_2 := blk_frozen BK271.out 2
                       have hfz111_3 := blk_frozen BK271.out 3
                       have hcz112_0 : wc.cell? ⟨gb282, 0, none⟩ = some (.int .i64 ((rd_T32 t274 x68_3).f0)) := (blk_cell BK282.out 0).trans rfl
                       have hcz112_1 : wc.cell? ⟨gb282, 1, none⟩ = some (.int .i64 ((rd_T32 t274 x68_3).f1)) := (blk_cell BK282.out 1).trans rfl
                       have hcz112_2 : wc.cell? ⟨gb282, 2, none⟩ = some (.int .i64 ((rd_T32 t274 x68_3).f2)) := (blk_cell BK282.out 2).trans rfl
                       have hcz112_3 : wc.cell? ⟨gb282, 3, none⟩ = some (.int .i64 ((rd_T32 t274 x68_3).f3)) := (blk_cell BK282.out 3).trans rfl
                       have hfz112_0 := blk_frozen BK282.out 0
                       have hfz112_1 := blk_frozen BK282.out 1
                       have hfz112_2 := blk_frozen BK282.out 2
                       have hfz112_3 := blk_frozen BK282.out 3
                       go_wp2
                       repeat (go_quiet (fail); try go_wp2)
                       go_ret
                       exact ⟨by first | rfl | (simp [errW_none, errW_some] <;> rfl) | (simp [*, errW_none, errW_some] <;> rfl), by repeat (first | (with_reducible first | exact HB.out | apply below_alloc | apply pw_below_drewN | apply below_drew1 | refine below_set ?_ GE271.out | refine below_set ?_ GE282.out) | exact HB.out)⟩
                     ·rw [if_neg c109] at H
                      have c109b0 : decide (((rd_T32 t274 x68_3).f1) < ((rd_T32 t274 x68_3).f3)) = false := decide_eq_false c109
                      clear c109
                      as_aux_lemma =>
                       have H' := Aside0.mk H
                       clear H
                       have hnb113 := NB271_282.out
                       have hnc113 := NB282_271.out
                       have hcz114_0 : wc.cell? ⟨gb271, 0, none⟩ = some (.int .i64 a0_0) := (blk_cell BK271.out 0).trans rfl
                       have hcz114_1 : wc.cell? ⟨gb271, 1, none⟩ = some (.int .i64 a0_1) := (blk_cell BK271.out 1).trans rfl
                       have hcz114_2 : wc.cell? ⟨gb271, 2, none⟩ = some (.int .i64 a0_2) := (blk_cell BK271.out 2).trans rfl
                       have hcz114_3 : wc.cell? ⟨gb271, 3, none⟩ = some (.int .i64 a0_3) := (blk_cell BK271.out 3).trans rfl
                       have hfz114_0 := blk_frozen BK271.out 0
                       have hfz114_1 := blk_frozen BK271.out 1
                       have hfz114_2 := blk_frozen BK271.out 2
                       have hfz114_3 := blk_frozen BK271.out 3
                       have hcz115_0 : wc.cell? ⟨gb282, 0, none⟩ = some (.int .i64 ((rd_T32 t274 x68_3).f0)) := (blk_cell BK282.out 0).trans rfl
                       have hcz115_1 : wc.cell? ⟨gb282, 1, none⟩ = some (.int .i64 ((rd_T32 t274 x68_3).f1)) := (blk_cell BK282.out 1).trans rfl
                       have hcz115_2 : wc.cell? ⟨gb282, 2, none⟩ = some (.int .i64 ((rd_T32 t274 x68_3).f2)) := (blk_cell BK282.out 2).trans rfl
                       have hcz115_3 : wc.cell? ⟨gb282, 3, none⟩ = some (.int .i64 ((rd_T32 t274 x68_3).f3)) := (blk_cell BK282.out 3).trans rfl
                       have hfz115_0 := blk_frozen BK282.out 0
                       have hfz115_1 := blk_frozen BK282.out 1
                       have hfz115_2 := blk_frozen BK282.out 2
                       have hfz115_3 := blk_frozen BK282.out 3
                       go_wp2
                       repeat (go_quiet (fail); try go_wp2)
                       go_roundg kj40
                       case measure => have := HJ4.out; have := HJ15.out; have := HK3.out; have := HJ40.out; omega
                       case rel => exact ⟨(wrap64 (x68_3 + 1)), (by first | rfl | (simp; done) | (simp [*]; done)), H', ⟨by have := HJ4.out; have := HJ15.out; have := HK3.out; have := HJ40.out; omega⟩, ⟨by (with_reducible repeat (first | apply Kd.R_alloc | apply Kd.R_drewN | apply Kd.R_drew)); exact Kd.R_mono HO_5.out (fun _ hk => hk.1)⟩, ⟨by (with_reducible repeat (first | apply Kd.R_alloc | apply Kd.R_drewN | apply Kd.R_drew)); exact Kd.R_mono HO_66.out (fun _ hk => hk.1)⟩, ⟨by (with_reducible repeat (first | refine blk_drewN ?_ _ | refine blk_drew ?_ | refine blk_alloc ?_ _)); exact BK271.out⟩, ⟨by repeat (first | (with_reducible first | exact HB.out | apply below_alloc | apply pw_below_drewN | apply below_drew1 | refine below_set ?_ GE271.out | refine below_set ?_ GE282.out) | exact HB.out)⟩⟩
                    ·rw [if_neg c108] at H
                     have c108b0 : decide (a0_3 ≤ a0_1) = false := decide_eq_false c108
                     clear c108
                     as_aux_lemma =>
                      have H' := Aside0.mk H
                      clear H
                      have hnb116 := NB271_282.out
                      have hnc116 := NB282_271.out
                      have hcz117_0 : wc.cell? ⟨gb271, 0, none⟩ = some (.int .i64 a0_0) := (blk_cell BK271.out 0).trans rfl
                      have hcz117_1 : wc.cell? ⟨gb271, 1, none⟩ = some (.int .i64 a0_1) := (blk_cell BK271.out 1).trans rfl
                      have hcz117_2 : wc.cell? ⟨gb271, 2, none⟩ = some (.int .i64 a0_2) := (blk_cell BK271.out 2).trans rfl
                      have hcz117_3 : wc.cell? ⟨gb271, 3, none⟩ = some (.int .i64 a0_3) := (blk_cell BK271.out 3).trans rfl
                      have hfz117_0 := blk_frozen BK271.out 0
                      have hfz117_1 := blk_frozen BK271.out 1
                      have hfz117_2 := blk_frozen BK271.out 2
                      have hfz117_3 := blk_frozen BK271.out 3
                      have hcz118_0 : wc.cell? ⟨gb282, 0, none⟩ = some (.int .i64 ((rd_T32 t274 x68_3).f0)) := (blk_cell BK282.out 0).trans rfl
                      have hcz118_1 : wc.cell? ⟨gb282, 1, none⟩ = some (.int .i64 ((rd_T32 t274 x68_3).f1)) := (blk_cell BK282.out 1).trans rfl
                      have hcz118_2 : wc.cell? ⟨gb282, 2, none⟩ = some (.int .i64 ((rd_T32 t274 x68_3).f2)) := (blk_cell BK282.out 2).trans rfl
                      have hcz118_3 : wc.cell? ⟨gb282, 3, none⟩ = some (.int .i64 ((rd_T32 t274 x68_3).f3)) := (blk_cell BK282.out 3).trans rfl
                      have hfz118_0 := blk_frozen BK282.out 0
                      have hfz118_1 := blk_frozen BK282.out 1
                      have hfz118_2 := blk_frozen BK282.out 2
                      have hfz118_3 := blk_frozen BK282.out 3
                      go_wp2
                      repeat (go_quiet (fail); try go_wp2)
                      go_roundg kj40
                      case measure => have := HJ4.out; have := HJ15.out; have := HK3.out; have := HJ40.out; omega
                      case rel => exact ⟨(wrap64 (x68_3 + 1)), (by first | rfl | (simp; done) | (simp [*]; done)), H', ⟨by have := HJ4.out; have := HJ15.out; have := HK3.out; have := HJ40.out; omega⟩, ⟨by (with_reducible repeat (first | apply Kd.R_alloc | apply Kd.R_drewN | apply Kd.R_drew)); exact Kd.R_mono HO_5.out (fun _ hk => hk.1)⟩, ⟨by (with_reducible repeat (first | apply Kd.R_alloc | apply Kd.R_drewN | apply Kd.R_drew)); exact Kd.R_mono HO_66.out (fun _ hk => hk.1)⟩, ⟨by (with_reducible repeat (first | refine blk_drewN ?_ _ | refine blk_drew ?_ | refine blk_alloc ?_ _)); exact BK271.out⟩, ⟨by repeat (first | (with_reducible first | exact HB.out | apply below_alloc | apply pw_below_drewN | apply below_drew1 | refine below_set ?_ GE271.out | refine below_set ?_ GE282.out) | exact HB.out)⟩⟩
                ·rw [if_neg c55] at H
                 have c55b0 : decide (a0_0 ≤ a0_2) = false := decide_eq_false c55
                 clear c55
                 by_cases c119 : a0_0 ≥ a0_2
                 ·rw [if_pos c119] at H
                  have c119b0 : decide (a0_2 ≤ a0_0) = true := decide_eq_true c119
                  clear c119
                  by_cases c120 : ((rd_T32 t274 x68_3).f2) > ((rd_T32 t274 x68_3).f0)
                  ·rw [if_pos c120] at H
                   have c120b0 : decide (((rd_T32 t274 x68_3).f0) < ((rd_T32 t274 x68_3).f2)) = true := decide_eq_true c120
                   clear c120
                   as_aux_lemma =>
                    obtain rfl := Option.some.inj H
                    have hnb121 := NB271_282.out
                    have hnc121 := NB282_271.out
                    have hcz122_0 : wc.cell? ⟨gb271, 0, none⟩ = some (.int .i64 a0_0) := (blk_cell BK271.out 0).trans rfl
                    have hcz122_1 : wc.cell? ⟨gb271, 1, none⟩ = some (.int .i64 a0_1) := (blk_cell BK271.out 1).trans rfl
                    have hcz122_2 : wc.cell? ⟨gb271, 2, none⟩ = some (.int .i64 a0_2) := (blk_cell BK271.out 2).trans rfl
                    have hcz122_3 : wc.cell? ⟨gb271, 3, none⟩ = some (.int .i64 a0_3) := (blk_cell BK271.out 3).trans rfl
                    have hfz122_0 := blk_frozen BK271.out 0
                    have hfz122_1 := blk_frozen BK271.out 1
                    have hfz122_2 := blk_frozen BK271.out 2
                    have hfz122_3 := blk_frozen BK271.out 3
                    have hcz123_0 : wc.cell? ⟨gb282, 0, none⟩ = some (.int .i64 ((rd_T32 t274 x68_3).f0)) := (blk_cell BK282.out 0).trans rfl
                    have hcz123_1 : wc.cell? ⟨gb282, 1, none⟩ = some (.int .i64 ((rd_T32 t274 x68_3).f1)) := (blk_cell BK282.out 1).trans rfl
                    have hcz123_2 : wc.cell? ⟨gb282, 2, none⟩ = some (.int .i64 ((rd_T32 t274 x68_3).f2)) := (blk_cell BK282.out 2).trans rfl
                    have hcz123_3 : wc.cell? ⟨gb282, 3, none⟩ = some (.int .i64 ((rd_T32 t274 x68_3).f3)) := (blk_cell BK282.out 3).trans rfl
                    have hfz123_0 := blk_frozen BK282.out 0
                    have hfz123_1 := blk_frozen BK282.out 1
                    have hfz123_2 := blk_frozen BK282.out 2
                    have hfz123_3 := blk_frozen BK282.out 3
                    go_wp2
                    repeat (go_quiet (fail); try go_wp2)
                    go_ret
                    exact ⟨by first | rfl | (simp [errW_none, errW_some] <;> rfl) | (simp [*, errW_none, errW_some] <;> rfl), by repeat (first | (with_reducible first | exact HB.out | apply below_alloc | apply pw_below_drewN | apply below_drew1 | refine below_set ?_ GE271.out | refine below_set ?_ GE282.out) | exact HB.out)⟩
                  ·rw [if_neg c120] at H
                   have c120b0 : decide (((rd_T32 t274 x68_3).f0) < ((rd_T32 t274 x68_3).f2)) = false := decide_eq_false c120
                   clear c120
                   by_cases c124 : a0_1 ≤ a0_3
                   ·rw [if_pos c124] at H
                    have c124b0 : decide (a0_1 ≤ a0_3) = true := decide_eq_true c124
                    clear c124
                    by_cases c125 : ((rd_T32 t274 x68_3).f3) < ((rd_T32 t274 x68_3).f1)
                    ·rw [if_pos c125] at H
                     have c125b0 : decide (((rd_T32 t274 x68_3).f3) < ((rd_T32 t274 x68_3).f1)) = true := decide_eq_true c125
                     clear c125
                     as_aux_lemma =>
                      obtain rfl := Option.some.inj H
                      have hnb126 := NB271_282.out
                      have hnc126 := NB282_271.out
                      have hcz127_0 : wc.cell? ⟨gb271, 0, none⟩ = some (.int .i64 a0_0) := (blk_cell BK271.out 0).trans rfl
                      have hcz127_1 : wc.cell? ⟨gb271, 1, none⟩ = some (.int .i64 a0_1) := (blk_cell BK271.out 1).trans rfl
                      have hcz127_2 : wc.cell? ⟨gb271, 2, none⟩ = some (.int .i64 a0_2) := (blk_cell BK271.out 2).trans rfl
                      have hcz127_3 : wc.cell? ⟨gb271, 3, none⟩ = some (.int .i64 a0_3) := (blk_cell BK271.out 3).trans rfl
                      have hfz127_0 := blk_frozen BK271.out 0
                      have hfz127_1 := blk_frozen BK271.out 1
                      have hfz127_2 := blk_frozen BK271.out 2
                      have hfz127_3 := blk_frozen BK271.out 3
                      have hcz128_0 : wc.cell? ⟨gb282, 0, none⟩ = some (.int .i64 ((rd_T32 t274 x68_3).f0)) := (blk_cell BK282.out 0).trans rfl
                      have hcz128_1 : wc.cell? ⟨gb282, 1, none⟩ = some (.int .i64 ((rd_T32 t274 x68_3).f1)) := (blk_cell BK282.out 1).trans rfl
                      have hcz128_2 : wc.cell? ⟨gb282, 2, none⟩ = some (.int .i64 ((rd_T32 t274 x68_3).f2)) := (blk_cell BK282.out 2).trans rfl
                      have hcz128_3 : wc.cell? ⟨gb282, 3, none⟩ = some (.int .i64 ((rd_T32 t274 x68_3).f3)) := (blk_cell BK282.out 3).trans rfl
                      have hfz128_0 := blk_frozen BK282.out 0
                      have hfz128_1 := blk_frozen BK282.out 1
                      have hfz128_2 := blk_frozen BK282.out 2
                      have hfz128_3 := blk_frozen BK282.out 3
                      go_wp2
                      repeat (go_quiet (fail); try go_wp2)
                      go_ret
                      exact ⟨by first | rfl | (simp [errW_none, errW_some] <;> rfl) | (simp [*, errW_none, errW_some] <;> rfl), by repeat (first | (with_reducible first | exact HB.out | apply below_alloc | apply pw_below_drewN | apply below_drew1 | refine below_set ?_ GE271.out | refine below_set ?_ GE282.out) | exact HB.out)⟩
                    ·rw [if_neg c125] at H
                     have c125b0 : decide (((rd_T32 t274 x68_3).f3) < ((rd_T32 t274 x68_3).f1)) = false := decide_eq_false c125
                     clear c125
                     by_cases c129 : a0_1 ≥ a0_3
                     ·rw [if_pos c129] at H
                      have c129b0 : decide (a0_3 ≤ a0_1) = true := decide_eq_true c129
                      clear c129
                      by_cases c130 : ((rd_T32 t274 x68_3).f3) > ((rd_T32 t274 x68_3).f1)
                      ·rw [if_pos c130] at H
                       have c130b0 : decide (((rd_T32 t274 x68_3).f1) < ((rd_T32 t274 x68_3).f3)) = true := decide_eq_true c130
                       clear c130
                       as_aux_lemma =>
                        obtain rfl := Option.some.inj H
                        have hnb131 := NB271_282.out
                        have hnc131 := NB282_271.out
                        have hcz132_0 : wc.cell? ⟨gb271, 0, none⟩ = some (.int .i64 a0_0) := (blk_cell BK271.out 0).trans rfl
                        have hcz132_1 : wc.cell? ⟨gb271, 1, none⟩ = some (.int .i64 a0_1) := (blk_cell BK271.out 1).trans rfl
                        have hcz132_2 : wc.cell? ⟨gb271, 2, none⟩ = some (.int .i64 a0_2) := (blk_cell BK271.out 2).trans rfl
                        have hcz132_3 : wc.cell? ⟨gb271, 3, none⟩ = some (.int .i64 a0_3) := (blk_cell BK271.out 3).trans rfl
                        have hfz132_0 := blk_frozen BK271.out 0
                        have hfz132_1 := blk_frozen BK271.out 1
                        have hfz132_2 := blk_frozen BK271.out 2
                        have hfz132_3 := blk_frozen BK271.out 3
                        have hcz133_0 : wc.cell? ⟨gb282, 0, none⟩ = some (.int .i64 ((rd_T32 t274 x68_3).f0)) := (blk_cell BK282.out 0).trans rfl
                        have hcz133_1 : wc.cell? ⟨gb282, 1, none⟩ = some (.int .i64 ((rd_T32 t274 x68_3).f1)) := (blk_cell BK282.out 1).trans rfl
                        have hcz133_2 : wc.cell? ⟨gb282, 2, none⟩ = some (.int .i64 ((rd_T32 t274 x68_3).f2)) := (blk_cell BK282.out 2).trans rfl
                        have hcz133_3 : wc.cell? ⟨gb282, 3, none⟩ = some (.int .i64 ((rd_T32 t274 x68_3).f3)) := (blk_cell BK282.out 3).trans rfl
                        have hfz133_0 := blk_frozen BK282.out 0
                        have hfz133_1 := blk_frozen BK282.out 1
                        have hfz133_2 := blk_frozen BK282.out 2
                        have hfz133_3 := blk_frozen BK282.out 3
                        go_wp2
                        repeat (go_quiet (fail); try go_wp2)
                        go_ret
                        exact ⟨by first | rfl | (simp [errW_none, errW_some] <;> rfl) | (simp [*, errW_none, errW_some] <;> rfl), by repeat (first | (with_reducible first | exact HB.out | apply below_alloc | apply pw_below_drewN | apply below_drew1 | refine below_set ?_ GE271.out | refine below_set ?_ GE282.out) | exact HB.out)⟩
                      ·rw [if_neg c130] at H
                       have c130b0 : decide (((rd_T32 t274 x68_3).f1) < ((rd_T32 t274 x68_3).f3)) = false := decide_eq_false c130
                       clear c130
                       as_aux_lemma =>
                        have H' := Aside0.mk H
                        clear H
                        have hnb134 := NB271_282.out
                        have hnc134 := NB282_271.out
                        have hcz135_0 : wc.cell? ⟨gb271, 0, none⟩ = some (.int .i64 a0_0) := (blk_cell BK271.out 0).trans rfl
                        have hcz135_1 : wc.cell? ⟨gb271, 1, none⟩ = some (.int .i64 a0_1) := (blk_cell BK271.out 1).trans rfl
                        have hcz135_2 : wc.cell? ⟨gb271, 2, none⟩ = some (.int .i64 a0_2) := (blk_cell BK271.out 2).trans rfl
                        have hcz135_3 : wc.cell? ⟨gb271, 3, none⟩ = some (.int .i64 a0_3) := (blk_cell BK271.out 3).trans rfl
                        have hfz135_0 := blk_frozen BK271.out 0
                        have hfz135_1 := blk_frozen BK271.out 1
                        have hfz135_2 := blk_frozen BK271.out 2
                        have hfz135_3 := blk_frozen BK271.out 3
                        have hcz136_0 : wc.cell? ⟨gb282, 0, none⟩ = some (.int .i64 ((rd_T32 t274 x68_3).f0)) := (blk_cell BK282.out 0).trans rfl
                        have hcz136_1 : wc.cell? ⟨gb282, 1, none⟩ = some (.int .i64 ((rd_T32 t274 x68_3).f1)) := (blk_cell BK282.out 1).trans rfl
                        have hcz136_2 : wc.cell? ⟨gb282, 2, none⟩ = some (.int .i64 ((rd_T32 t274 x68_3).f2)) := (blk_cell BK282.out 2).trans rfl
                        have hcz136_3 : wc.cell? ⟨gb282, 3, none⟩ = some (.int .i64 ((rd_T32 t274 x68_3).f3)) := (blk_cell BK282.out 3).trans rfl
                        have hfz136_0 := blk_frozen BK282.out 0
                        have hfz136_1 := blk_frozen BK282.out 1
                        have hfz136_2 := blk_frozen BK282.out 2
                        have hfz136_3 := blk_frozen BK282.out 3
                        go_wp2
                        repeat (go_quiet (fail); try go_wp2)
                        go_roundg kj40
                        case measure => have := HJ4.out; have := HJ15.out; have := HK3.out; have := HJ40.out; omega
                        case rel => exact ⟨(wrap64 (x68_3 + 1)), (by first | rfl | (simp; done) | (simp [*]; done)), H', ⟨by have := HJ4.out; have := HJ15.out; have := HK3.out; have := HJ40.out; omega⟩, ⟨by (with_reducible repeat (first | apply Kd.R_alloc | apply Kd.R_drewN | apply Kd.R_drew)); exact Kd.R_mono HO_5.out (fun _ hk => hk.1)⟩, ⟨by (with_reducible repeat (first | apply Kd.R_alloc | apply Kd.R_drewN | apply Kd.R_drew)); exact Kd.R_mono HO_66.out (fun _ hk => hk.1)⟩, ⟨by (with_reducible repeat (first | refine blk_drewN ?_ _ | refine blk_drew ?_ | refine blk_alloc ?_ _)); exact BK271.out⟩, ⟨by repeat (first | (with_reducible first | exact HB.out | apply below_alloc | apply pw_below_drewN | apply below_drew1 | refine below_set ?_ GE271.out | refine below_set ?_ GE282.out) | exact HB.out)⟩⟩
                     ·rw [if_neg c129] at H
                      have c129b0 : decide (a0_3 ≤ a0_1) = false := decide_eq_false c129
                      clear c129
                      as_aux_lemma =>
                       have H' := Aside0.mk H
                       clear H
                       have hnb137 := NB271_282.out
                       have hnc137 := NB282_271.out
                       have hcz138_0 : wc.cell? ⟨gb271, 0, none⟩ = some (.int .i64 a0_0) := (blk_cell BK271.out 0).trans rfl
                       have hcz138_1 : wc.cell? ⟨gb271, 1, none⟩ = some (.int .i64 a0_1) := (blk_cell BK271.out 1).trans rfl
                       have hcz138_2 : wc.cell? ⟨gb271, 2, none⟩ = some (.int .i64 a0_2) := (blk_cell BK271.out 2).trans rfl
                       have hcz138_3 : wc.cell? ⟨gb271, 3, none⟩ = some (.int .i64 a0_3) := (blk_cell BK271.out 3).trans rfl
                       have hfz138_0 := blk_frozen BK271.out 0
                       have hfz138_1 := blk_frozen BK271.out 1
                       have hfz138_2 := blk_frozen BK271.out 2
                       have hfz138_3 := blk_frozen BK271.out 3
                       have hcz139_0 : wc.cell? ⟨gb282, 0, none⟩ = some (.int .i64 ((rd_T32 t274 x68_3).f0)) := (blk_cell BK282.out 0).trans rfl
                       have hcz139_1 : wc.cell? ⟨gb282, 1, none⟩ = some (.int .i64 ((rd_T32 t274 x68_3).f1)) := (blk_cell BK282.out 1).trans rfl
                       have hcz139_2 : wc.cell? ⟨gb282, 2, none⟩ = some (.int .i64 ((rd_T32 t274 x68_3).f2)) := (blk_cell BK282.out 2).trans rfl
                       have hcz139_3 : wc.cell? ⟨gb282, 3, none⟩ = some (.int .i64 ((rd_T32 t274 x68_3).f3)) := (blk_cell BK282.out 3).trans rfl
                       have hfz139_0 := blk_frozen BK282.out 0
                       have hfz139_1 := blk_frozen BK282.out 1
                       have hfz139_2 := blk_frozen BK282.out 2
                       have hfz139_3 := blk_frozen BK282.out 3
                       go_wp2
                       repeat (go_quiet (fail); try go_wp2)
                       go_roundg kj40
                       case measure => have := HJ4.out; have := HJ15.out; have := HK3.out; have := HJ40.out; omega
                       case rel => exact ⟨(wrap64 (x68_3 + 1)), (by first | rfl | (simp; done) | (simp [*]; done)), H', ⟨by have := HJ4.out; have := HJ15.out; have := HK3.out; have := HJ40.out; omega⟩, ⟨by (with_reducible repeat (first | apply Kd.R_alloc | apply Kd.R_drewN | apply Kd.R_drew)); exact Kd.R_mono HO_5.out (fun _ hk => hk.1)⟩, ⟨by (with_reducible repeat (first | apply Kd.R_alloc | apply Kd.R_drewN | apply Kd.R_drew)); exact Kd.R_mono HO_66.out (fun _ hk => hk.1)⟩, ⟨by (with_reducible repeat (first | refine blk_drewN ?_ _ | refine blk_drew ?_ | refine blk_alloc ?_ _)); exact BK271.out⟩, ⟨by repeat (first | (with_reducible first | exact HB.out | apply below_alloc | apply pw_below_drewN | apply below_drew1 | refine below_set ?_ GE271.out | refine below_set ?_ GE282.out) | exact HB.out)⟩⟩
                   ·rw [if_neg c124] at H
                    have c124b0 : decide (a0_1 ≤ a0_3) = false := decide_eq_false c124
                    clear c124
                    by_cases c140 : a0_1 ≥ a0_3
                    ·rw [if_pos c140] at H
                     have c140b0 : decide (a0_3 ≤ a0_1) = true := decide_eq_true c140
                     clear c140
                     by_cases c141 : ((rd_T32 t274 x68_3).f3) > ((rd_T32 t274 x68_3).f1)
                     ·rw [if_pos c141] at H
                      have c141b0 : decide (((rd_T32 t274 x68_3).f1) < ((rd_T32 t274 x68_3).f3)) = true := decide_eq_true c141
                      clear c141
                      as_aux_lemma =>
                       obtain rfl := Option.some.inj H
                       have hnb142 := NB271_282.out
                       have hnc142 := NB282_271.out
                       have hcz143_0 : wc.cell? ⟨gb271, 0, none⟩ = some (.int .i64 a0_0) := (blk_cell BK271.out 0).trans rfl
                       have hcz143_1 : wc.cell? ⟨gb271, 1, none⟩ = some (.int .i64 a0_1) := (blk_cell BK271.out 1).trans rfl
                       have hcz143_2 : wc.cell? ⟨gb271, 2, none⟩ = some (.int .i64 a0_2) := (blk_cell BK271.out 2).trans rfl
                       have hcz143_3 : wc.cell? ⟨gb271, 3, none⟩ = some (.int .i64 a0_3) := (blk_cell BK271.out 3).trans rfl
                       have hfz143_0 := blk_frozen BK271.out 0
                       have hfz143_1 := blk_frozen BK271.out 1
                       have hfz143_2 := blk_frozen BK271.out 2
                       have hfz143_3 := blk_frozen BK271.out 3
                       have hcz144_0 : wc.cell? ⟨gb282, 0, none⟩ = some (.int .i64 ((rd_T32 t274 x68_3).f0)) := (blk_cell BK282.out 0).trans rfl
                       have hcz144_1 : wc.cell? ⟨gb282, 1, none⟩ = some (.int .i64 ((rd_T32 t274 x68_3).f1)) := (blk_cell BK282.out 1).trans rfl
                       have hcz144_2 : wc.cell? ⟨gb282, 2, none⟩ = some (.int .i64 ((rd_T32 t274 x68_3).f2)) := (blk_cell BK282.out 2).trans rfl
                       have hcz144_3 : wc.cell? ⟨gb282, 3, none⟩ = some (.int .i64 ((rd_T32 t274 x68_3).f3)) := (blk_cell BK282.out 3).trans rfl
                       have hfz144_0 := blk_frozen BK282.out 0
                       have hfz144_1 := blk_frozen BK282.out 1
                       have hfz144_2 := blk_frozen BK282.out 2
                       have hfz144_3 := blk_frozen BK282.out 3
                       go_wp2
                       repeat (go_quiet (fail); try go_wp2)
                       go_ret
                       exact ⟨by first | rfl | (simp [errW_none, errW_some] <;> rfl) | (simp [*, errW_none, errW_some] <;> rfl), by repeat (first | (with_reducible first | exact HB.out | apply below_alloc | apply pw_below_drewN | apply below_drew1 | refine below_set ?_ GE271.out | refine below_set ?_ GE282.out) | exact HB.out)⟩
                     ·rw [if_neg c141] at H
                      have c141b0 : decide (((rd_T32 t274 x68_3).f1) < ((rd_T32 t274 x68_3).f3)) = false := decide_eq_false c141
                      clear c141
                      as_aux_lemma =>
                       have H' := Aside0.mk H
                       clear H
                       have hnb145 := NB271_282.out
                       have hnc145 := NB282_271.out
                       have hcz146_0 : wc.cell? ⟨gb271, 0, none⟩ = some (.int .i64 a0_0) := (blk_cell BK271.out 0).trans rfl
                       have hcz146_1 : wc.cell? ⟨gb271, 1, none⟩ = some (.int .i64 a0_1) := (blk_cell BK271.out 1).trans rfl
                       have hcz146_2 : wc.cell? ⟨gb271, 2, none⟩ = some (.int .i64 a0_2) := (blk_cell BK271.out 2).trans rfl
                       have hcz146_3 : wc.cell? ⟨gb271, 3, none⟩ = some (.int .i64 a0_3) := (blk_cell BK271.out 3).trans rfl
                       have hfz146_0 := blk_frozen BK271.out 0
                       have hfz146_1 := blk_frozen BK271.out 1
                       have hfz146_2 := blk_frozen BK271.out 2
                       have hfz146_3 := blk_frozen BK271.out 3
                       have hcz147_0 : wc.cell? ⟨gb282, 0, none⟩ = some (.int .i64 ((rd_T32 t274 x68_3).f0)) := (blk_cell BK282.out 0).trans rfl
                       have hcz147_1 : wc.cell? ⟨gb282, 1, none⟩ = some (.int .i64 ((rd_T32 t274 x68_3).f1)) := (blk_cell BK282.out 1).trans rfl
                       have hcz147_2 : wc.cell? ⟨gb282, 2, none⟩ = some (.int .i64 ((rd_T32 t274 x68_3).f2)) := (blk_cell BK282.out 2).trans rfl
                       have hcz147_3 : wc.cell? ⟨gb282, 3, none⟩ = some (.int .i64 ((rd_T32 t274 x68_3).f3)) := (blk_cell BK282.out 3).trans rfl
                       have hfz147_0 := blk_frozen BK282.out 0
                       have hfz147_1 := blk_frozen BK282.out 1
                       have hfz147_2 := blk_frozen BK282.out 2
                       have hfz147_3 := blk_frozen BK282.out 3
                       go_wp2
                       repeat (go_quiet (fail); try go_wp2)
                       go_roundg kj40
                       case measure => have := HJ4.out; have := HJ15.out; have := HK3.out; have := HJ40.out; omega
                       case rel => exact ⟨(wrap64 (x68_3 + 1)), (by first | rfl | (simp; done) | (simp [*]; done)), H', ⟨by have := HJ4.out; have := HJ15.out; have := HK3.out; have := HJ40.out; omega⟩, ⟨by (with_reducible repeat (first | apply Kd.R_alloc | apply Kd.R_drewN | apply Kd.R_drew)); exact Kd.R_mono HO_5.out (fun _ hk => hk.1)⟩, ⟨by (with_reducible repeat (first | apply Kd.R_alloc | apply Kd.R_drewN | apply Kd.R_drew)); exact Kd.R_mono HO_66.out (fun _ hk => hk.1)⟩, ⟨by (with_reducible repeat (first | refine blk_drewN ?_ _ | refine blk_drew ?_ | refine blk_alloc ?_ _)); exact BK271.out⟩, ⟨by repeat (first | (with_reducible first | exact HB.out | apply below_alloc | apply pw_below_drewN | apply below_drew1 | refine below_set ?_ GE271.out | refine below_set ?_ GE282.out) | exact HB.out)⟩⟩
                    ·rw [if_neg c140] at H
                     have c140b0 : decide (a0_3 ≤ a0_1) = false := decide_eq_false c140
                     clear c140
                     as_aux_lemma =>
                      have H' := Aside0.mk H
                      clear H
                      have hnb148 := NB271_282.out
                      have hnc148 := NB282_271.out
                      have hcz149_0 : wc.cell? ⟨gb271, 0, none⟩ = some (.int .i64 a0_0) := (blk_cell BK271.out 0).trans rfl
                      have hcz149_1 : wc.cell? ⟨gb271, 1, none⟩ = some (.int .i64 a0_1) := (blk_cell BK271.out 1).trans rfl
                      have hcz149_2 : wc.cell? ⟨gb271, 2, none⟩ = some (.int .i64 a0_2) := (blk_cell BK271.out 2).trans rfl
                      have hcz149_3 : wc.cell? ⟨gb271, 3, none⟩ = some (.int .i64 a0_3) := (blk_cell BK271.out 3).trans rfl
                      have hfz149_0 := blk_frozen BK271.out 0
                      have hfz149_1 := blk_frozen BK271.out 1
                      have hfz149_2 := blk_frozen BK271.out 2
                      have hfz149_3 := blk_frozen BK271.out 3
                      have hcz150_0 : wc.cell? ⟨gb282, 0, none⟩ = some (.int .i64 ((rd_T32 t274 x68_3).f0)) := (blk_cell BK282.out 0).trans rfl
                      have hcz150_1 : wc.cell? ⟨gb282, 1, none⟩ = some (.int .i64 ((rd_T32 t274 x68_3).f1)) := (blk_cell BK282.out 1).trans rfl
                      have hcz150_2 : wc.cell? ⟨gb282, 2, none⟩ = some (.int .i64 ((rd_T32 t274 x68_3).f2)) := (blk_cell BK282.out 2).trans rfl
                      have hcz150_3 : wc.cell? ⟨gb282, 3, none⟩ = some (.int .i64 ((rd_T32 t274 x68_3).f3)) := (blk_cell BK282.out 3).trans rfl
                      have hfz150_0 := blk_frozen BK282.out 0
                      have hfz150_1 := blk_frozen BK282.out 1
                      have hfz150_2 := blk_frozen BK282.out 2
                      have hfz150_3 := blk_frozen BK282.out 3
                      go_wp2
                      repeat (go_quiet (fail); try go_wp2)
                      go_roundg kj40
                      case measure => have := HJ4.out; have := HJ15.out; have := HK3.out; have := HJ40.out; omega
                      case rel => exact ⟨(wrap64 (x68_3 + 1)), (by first | rfl | (simp; done) | (simp [*]; done)), H', ⟨by have := HJ4.out; have := HJ15.out; have := HK3.out; have := HJ40.out; omega⟩, ⟨by (with_reducible repeat (first | apply Kd.R_alloc | apply Kd.R_drewN | apply Kd.R_drew)); exact Kd.R_mono HO_5.out (fun _ hk => hk.1)⟩, ⟨by (with_reducible repeat (first | apply Kd.R_alloc | apply Kd.R_drewN | apply Kd.R_drew)); exact Kd.R_mono HO_66.out (fun _ hk => hk.1)⟩, ⟨by (with_reducible repeat (first | refine blk_drewN ?_ _ | refine blk_drew ?_ | refine blk_alloc ?_ _)); exact BK271.out⟩, ⟨by repeat (first | (with_reducible first | exact HB.out | apply below_alloc | apply pw_below_drewN | apply below_drew1 | refine below_set ?_ GE271.out | refine below_set ?_ GE282.out) | exact HB.out)⟩⟩
                 ·rw [if_neg c119] at H
                  have c119b0 : decide (a0_2 ≤ a0_0) = false := decide_eq_false c119
                  clear c119
                  by_cases c151 : a0_1 ≤ a0_3
                  ·rw [if_pos c151] at H
                   have c151b0 : decide (a0_1 ≤ a0_3) = true := decide_eq_true c151
                   clear c151
                   by_cases c152 : ((rd_T32 t274 x68_3).f3) < ((rd_T32 t274 x68_3).f1)
                   ·rw [if_pos c152] at H
                    have c152b0 : decide (((rd_T32 t274 x68_3).f3) < ((rd_T32 t274 x68_3).f1)) = true := decide_eq_true c152
                    clear c152
                    as_aux_lemma =>
                     obtain rfl := Option.some.inj H
                     have hnb153 := NB271_282.out
                     have hnc153 := NB282_271.out
                     have hcz154_0 : wc.cell? ⟨gb271, 0, none⟩ = some (.int .i64 a0_0) := (blk_cell BK271.out 0).trans rfl
                     have hcz154_1 : wc.cell? ⟨gb271, 1, none⟩ = some (.int .i64 a0_1) := (blk_cell BK271.out 1).trans rfl
                     have hcz154_2 : wc.cell? ⟨gb271, 2, none⟩ = some (.int .i64 a0_2) := (blk_cell BK271.out 2).trans rfl
                     have hcz154_3 : wc.cell? ⟨gb271, 3, none⟩ = some (.int .i64 a0_3) := (blk_cell BK271.out 3).trans rfl
                     have hfz154_0 := blk_frozen BK271.out 0
                     have hfz154_1 := blk_frozen BK271.out 1
                     have hfz154_2 := blk_frozen BK271.out 2
                     have hfz154_3 := blk_frozen BK271.out 3
                     have hcz155_0 : wc.cell? ⟨gb282, 0, none⟩ = some (.int .i64 ((rd_T32 t274 x68_3).f0)) := (blk_cell BK282.out 0).trans rfl
                     have hcz155_1 : wc.cell? ⟨gb282, 1, none⟩ = some (.int .i64 ((rd_T32 t274 x68_3).f1)) := (blk_cell BK282.out 1).trans rfl
                     have hcz155_2 : wc.cell? ⟨gb282, 2, none⟩ = some (.int .i64 ((rd_T32 t274 x68_3).f2)) := (blk_cell BK282.out 2).trans rfl
                     have hcz155_3 : wc.cell? ⟨gb282, 3, none⟩ = some (.int .i64 ((rd_T32 t274 x68_3).f3)) := (blk_cell BK282.out 3).trans rfl
                     have hfz155_0 := blk_frozen BK282.out 0
                     have hfz155_1 := blk_frozen BK282.out 1
                     have hfz155_2 := blk_frozen BK282.out 2
                     have hfz155_3 := blk_frozen BK282.out 3
                     go_wp2
                     repeat (go_quiet (fail); try go_wp2)
                     go_ret
                     exact ⟨by first | rfl | (simp [errW_none, errW_some] <;> rfl) | (simp [*, errW_none, errW_some] <;> rfl), by repeat (first | (with_reducible first | exact HB.out | apply below_alloc | apply pw_below_drewN | apply below_drew1 | refine below_set ?_ GE271.out | refine below_set ?_ GE282.out) | exact HB.out)⟩
                   ·rw [if_neg c152] at H
                    have c152b0 : decide (((rd_T32 t274 x68_3).f3) < ((rd_T32 t274 x68_3).f1)) = false := decide_eq_false c152
                    clear c152
                    by_cases c156 : a0_1 ≥ a0_3
                    ·rw [if_pos c156] at H
                     have c156b0 : decide (a0_3 ≤ a0_1) = true := decide_eq_true c156
                     clear c156
                     by_cases c157 : ((rd_T32 t274 x68_3).f3) > ((rd_T32 t274 x68_3).f1)
                     ·rw [if_pos c157] at H
                      have c157b0 : decide (((rd_T32 t274 x68_3).f1) < ((rd_T32 t274 x68_3).f3)) = true := decide_eq_true c157
                      clear c157
                      as_aux_lemma =>
                       obtain rfl := Option.some.inj H
                       have hnb158 := NB271_282.out
                       have hnc158 := NB282_271.out
                       have hcz159_0 : wc.cell? ⟨gb271, 0, none⟩ = some (.int .i64 a0_0) := (blk_cell BK271.out 0).trans rfl
                       have hcz159_1 : wc.cell? ⟨gb271, 1, none⟩ = some (.int .i64 a0_1) := (blk_cell BK271.out 1).trans rfl
                       have hcz159_2 : wc.cell? ⟨gb271, 2, none⟩ = some (.int .i64 a0_2) := (blk_cell BK271.out 2).trans rfl
                       have hcz159_3 : wc.cell? ⟨gb271, 3, none⟩ = some (.int .i64 a0_3) := (blk_cell BK271.out 3).trans rfl
                       have hfz159_0 := blk_frozen BK271.out 0
                       have hfz159_1 := blk_frozen BK271.out 1
                       have hfz159_2 := blk_frozen BK271.out 2
                       have hfz159_3 := blk_frozen BK271.out 3
                       have hcz160_0 : wc.cell? ⟨gb282, 0, none⟩ = some (.int .i64 ((rd_T32 t274 x68_3).f0)) := (blk_cell BK282.out 0).trans rfl
                       have hcz160_1 : wc.cell? ⟨gb282, 1, none⟩ = some (.int .i64 ((rd_T32 t274 x68_3).f1)) := (blk_cell BK282.out 1).trans rfl
                       have hcz160_2 : wc.cell? ⟨gb282, 2, none⟩ = some (.int .i64 ((rd_T32 t274 x68_3).f2)) := (blk_cell BK282.out 2).trans rfl
                       have hcz160_3 : wc.cell? ⟨gb282, 3, none⟩ = some (.int .i64 ((rd_T32 t274 x68_3).f3)) := (blk_cell BK282.out 3).trans rfl
                       have hfz160_0 := blk_frozen BK282.out 0
                       have hfz160_1 := blk_frozen BK282.out 1
                       have hfz160_2 := blk_frozen BK282.out 2
                       have hfz160_3 := blk_frozen BK282.out 3
                       go_wp2
                       repeat (go_quiet (fail); try go_wp2)
                       go_ret
                       exact ⟨by first | rfl | (simp [errW_none, errW_some] <;> rfl) | (simp [*, errW_none, errW_some] <;> rfl), by repeat (first | (with_reducible first | exact HB.out | apply below_alloc | apply pw_below_drewN | apply below_drew1 | refine below_set ?_ GE271.out | refine below_set ?_ GE282.out) | exact HB.out)⟩
                     ·rw [if_neg c157] at H
                      have c157b0 : decide (((rd_T32 t274 x68_3).f1) < ((rd_T32 t274 x68_3).f3)) = false := decide_eq_false c157
                      clear c157
                      as_aux_lemma =>
                       have H' := Aside0.mk H
                       clear H
                       have hnb161 := NB271_282.out
                       have hnc161 := NB282_271.out
                       have hcz162_0 : wc.cell? ⟨gb271, 0, none⟩ = some (.int .i64 a0_0) := (blk_cell BK271.out 0).trans rfl
                       have hcz162_1 : wc.cell? ⟨gb271, 1, none⟩ = some (.int .i64 a0_1) := (blk_cell BK271.out 1).trans rfl
                       have hcz162_2 : wc.cell? ⟨gb271, 2, none⟩ = some (.int .i64 a0_2) := (blk_cell BK271.out 2).trans rfl
                       have hcz162_3 : wc.cell? ⟨gb271, 3, none⟩ = some (.int .i64 a0_3) := (blk_cell BK271.out 3).trans rfl
                       have hfz162_0 := blk_frozen BK271.out 0
                       have hfz162_1 := blk_frozen BK271.out 1
                       have hfz162_2 := blk_frozen BK271.out 2
                       have hfz162_3 := blk_frozen BK271.out 3
                       have hcz163_0 : wc.cell? ⟨gb282, 0, none⟩ = some (.int .i64 ((rd_T32 t274 x68_3).f0)) := (blk_cell BK282.out 0).trans rfl
                       have hcz163_1 : wc.cell? ⟨gb282, 1, none⟩ = some (.int .i64 ((rd_T32 t274 x68_3).f1)) := (blk_cell BK282.out 1).trans rfl
                       have hcz163_2 : wc.cell? ⟨gb282, 2, none⟩ = some (.int .i64 ((rd_T32 t274 x68_3).f2)) := (blk_cell BK282.out 2).trans rfl
                       have hcz163_3 : wc.cell? ⟨gb282, 3, none⟩ = some (.int .i64 ((rd_T32 t274 x68_3).f3)) := (blk_cell BK282.out 3).trans rfl
                       have hfz163_0 := blk_frozen BK282.out 0
                       have hfz163_1 := blk_frozen BK282.out 1
                       have hfz163_2 := blk_frozen BK282.out 2
                       have hfz163_3 := blk_frozen BK282.out 3
                       go_wp2
                       repeat (go_quiet (fail); try go_wp2)
                       go_roundg kj40
                       case measure => have := HJ4.out; have := HJ15.out; have := HK3.out; have := HJ40.out; omega
                       case rel => exact ⟨(wrap64 (x68_3 + 1)), (by first | rfl | (simp; done) | (simp [*]; done)), H', ⟨by have := HJ4.out; have := HJ15.out; have := HK3.out; have := HJ40.out; omega⟩, ⟨by (with_reducible repeat (first | apply Kd.R_alloc | apply Kd.R_drewN | apply Kd.R_drew)); exact Kd.R_mono HO_5.out (fun _ hk => hk.1)⟩, ⟨by (with_reducible repeat (first | apply Kd.R_alloc | apply Kd.R_drewN | apply Kd.R_drew)); exact Kd.R_mono HO_66.out (fun _ hk => hk.1)⟩, ⟨by (with_reducible repeat (first | refine blk_drewN ?_ _ | refine blk_drew ?_ | refine blk_alloc ?_ _)); exact BK271.out⟩, ⟨by repeat (first | (with_reducible first | exact HB.out | apply below_alloc | apply pw_below_drewN | apply below_drew1 | refine below_set ?_ GE271.out | refine below_set ?_ GE282.out) | exact HB.out)⟩⟩
                    ·rw [if_neg c156] at H
                     have c156b0 : decide (a0_3 ≤ a0_1) = false := decide_eq_false c156
                     clear c156
                     as_aux_lemma =>
                      have H' := Aside0.mk H
                      clear H
                      have hnb164 := NB271_282.out
                      have hnc164 := NB282_271.out
                      have hcz165_0 : wc.cell? ⟨gb271, 0, none⟩ = some (.int .i64 a0_0) := (blk_cell BK271.out 0).trans rfl
                      have hcz165_1 : wc.cell? ⟨gb271, 1, none⟩ = some (.int .i64 a0_1) := (blk_cell BK271.out 1).trans rfl
                      have hcz165_2 : wc.cell? ⟨gb271, 2, none⟩ = some (.int .i64 a0_2) := (blk_cell BK271.out 2).trans rfl
                      have hcz165_3 : wc.cell? ⟨gb271, 3, none⟩ = some (.int .i64 a0_3) := (blk_cell BK271.out 3).trans rfl
                      have hfz165_0 := blk_frozen BK271.out 0
                      have hfz165_1 := blk_frozen BK271.out 1
                      have hfz165_2 := blk_frozen BK271.out 2
                      have hfz165_3 := blk_frozen BK271.out 3
                      have hcz166_0 : wc.cell? ⟨gb282, 0, none⟩ = some (.int .i64 ((rd_T32 t274 x68_3).f0)) := (blk_cell BK282.out 0).trans rfl
                      have hcz166_1 : wc.cell? ⟨gb282, 1, none⟩ = some (.int .i64 ((rd_T32 t274 x68_3).f1)) := (blk_cell BK282.out 1).trans rfl
                      have hcz166_2 : wc.cell? ⟨gb282, 2, none⟩ = some (.int .i64 ((rd_T32 t274 x68_3).f2)) := (blk_cell BK282.out 2).trans rfl
                      have hcz166_3 : wc.cell? ⟨gb282, 3, none⟩ = some (.int .i64 ((rd_T32 t274 x68_3).f3)) := (blk_cell BK282.out 3).trans rfl
                      have hfz166_0 := blk_frozen BK282.out 0
                      have hfz166_1 := blk_frozen BK282.out 1
                      have hfz166_2 := blk_frozen BK282.out 2
                      have hfz166_3 := blk_frozen BK282.out 3
                      go_wp2
                      repeat (go_quiet (fail); try go_wp2)
                      go_roundg kj40
                      case measure => have := HJ4.out; have := HJ15.out; have := HK3.out; have := HJ40.out; omega
                      case rel => exact ⟨(wrap64 (x68_3 + 1)), (by first | rfl | (simp; done) | (simp [*]; done)), H', ⟨by have := HJ4.out; have := HJ15.out; have := HK3.out; have := HJ40.out; omega⟩, ⟨by (with_reducible repeat (first | apply Kd.R_alloc | apply Kd.R_drewN | apply Kd.R_drew)); exact Kd.R_mono HO_5.out (fun _ hk => hk.1)⟩, ⟨by (with_reducible repeat (first | apply Kd.R_alloc | apply Kd.R_drewN | apply Kd.R_drew)); exact Kd.R_mono HO_66.out (fun _ hk => hk.1)⟩, ⟨by (with_reducible repeat (first | refine blk_drewN ?_ _ | refine blk_drew ?_ | refine blk_alloc ?_ _)); exact BK271.out⟩, ⟨by repeat (first | (with_reducible first | exact HB.out | apply below_alloc | apply pw_below_drewN | apply below_drew1 | refine below_set ?_ GE271.out | refine below_set ?_ GE282.out) | exact HB.out)⟩⟩
                  ·rw [if_neg c151] at H
                   have c151b0 : decide (a0_1 ≤ a0_3) = false := decide_eq_false c151
                   clear c151
                   by_cases c167 : a0_1 ≥ a0_3
                   ·rw [if_pos c167] at H
                    have c167b0 : decide (a0_3 ≤ a0_1) = true := decide_eq_true c167
                    clear c167
                    by_cases c168 : ((rd_T32 t274 x68_3).f3) > ((rd_T32 t274 x68_3).f1)
                    ·rw [if_pos c168] at H
                     have c168b0 : decide (((rd_T32 t274 x68_3).f1) < ((rd_T32 t274 x68_3).f3)) = true := decide_eq_true c168
                     clear c168
                     as_aux_lemma =>
                      obtain rfl := Option.some.inj H
                      have hnb169 := NB271_282.out
                      have hnc169 := NB282_271.out
                      have hcz170_0 : wc.cell? ⟨gb271, 0, none⟩ = some (.int .i64 a0_0) := (blk_cell BK271.out 0).trans rfl
                      have hcz170_1 : wc.cell? ⟨gb271, 1, none⟩ = some (.int .i64 a0_1) := (blk_cell BK271.out 1).trans rfl
                      have hcz170_2 : wc.cell? ⟨gb271, 2, none⟩ = some (.int .i64 a0_2) := (blk_cell BK271.out 2).trans rfl
                      have hcz170_3 : wc.cell? ⟨gb271, 3, none⟩ = some (.int .i64 a0_3) := (blk_cell BK271.out 3).trans rfl
                      have hfz170_0 := blk_frozen BK271.out 0
                      have hfz170_1 := blk_frozen BK271.out 1
                      have hfz170_2 := blk_frozen BK271.out 2
                      have hfz170_3 := blk_frozen BK271.out 3
                      have hcz171_0 : wc.cell? ⟨gb282, 0, none⟩ = some (.int .i64 ((rd_T32 t274 x68_3).f0)) := (blk_cell BK282.out 0).trans rfl
                      have hcz171_1 : wc.cell? ⟨gb282, 1, none⟩ = some (.int .i64 ((rd_T32 t274 x68_3).f1)) := (blk_cell BK282.out 1).trans rfl
                      have hcz171_2 : wc.cell? ⟨gb282, 2, none⟩ = some (.int .i64 ((rd_T32 t274 x68_3).f2)) := (blk_cell BK282.out 2).trans rfl
                      have hcz171_3 : wc.cell? ⟨gb282, 3, none⟩ = some (.int .i64 ((rd_T32 t274 x68_3).f3)) := (blk_cell BK282.out 3).trans rfl
                      have hfz171_0 := blk_frozen BK282.out 0
                      have hfz171_1 := blk_frozen BK282.out 1
                      have hfz171_2 := blk_frozen BK282.out 2
                      have hfz171_3 := blk_frozen BK282.out 3
                      go_wp2
                      repeat (go_quiet (fail); try go_wp2)
                      go_ret
                      exact ⟨by first | rfl | (simp [errW_none, errW_some] <;> rfl) | (simp [*, errW_none, errW_some] <;> rfl), by repeat (first | (with_reducible first | exact HB.out | apply below_alloc | apply pw_below_drewN | apply below_drew1 | refine below_set ?_ GE271.out | refine below_set ?_ GE282.out) | exact HB.out)⟩
                    ·rw [if_neg c168] at H
                     have c168b0 : decide (((rd_T32 t274 x68_3).f1) < ((rd_T32 t274 x68_3).f3)) = false := decide_eq_false c168
                     clear c168
                     as_aux_lemma =>
                      have H' := Aside0.mk H
                      clear H
                      have hnb172 := NB271_282.out
                      have hnc172 := NB282_271.out
                      have hcz173_0 : wc.cell? ⟨gb271, 0, none⟩ = some (.int .i64 a0_0) := (blk_cell BK271.out 0).trans rfl
                      have hcz173_1 : wc.cell? ⟨gb271, 1, none⟩ = some (.int .i64 a0_1) := (blk_cell BK271.out 1).trans rfl
                      have hcz173_2 : wc.cell? ⟨gb271, 2, none⟩ = some (.int .i64 a0_2) := (blk_cell BK271.out 2).trans rfl
                      have hcz173_3 : wc.cell? ⟨gb271, 3, none⟩ = some (.int .i64 a0_3) := (blk_cell BK271.out 3).trans rfl
                      have hfz173_0 := blk_frozen BK271.out 0
                      have hfz173_1 := blk_frozen BK271.out 1
                      have hfz173_2 := blk_frozen BK271.out 2
                      have hfz173_3 := blk_frozen BK271.out 3
                      have hcz174_0 : wc.cell? ⟨gb282, 0, none⟩ = some (.int .i64 ((rd_T32 t274 x68_3).f0)) := (blk_cell BK282.out 0).trans rfl
                      have hcz174_1 : wc.cell? ⟨gb282, 1, none⟩ = some (.int .i64 ((rd_T32 t274 x68_3).f1)) := (blk_cell BK282.out 1).trans rfl
                      have hcz174_2 : wc.cell? ⟨gb282, 2, none⟩ = some (.int .i64 ((rd_T32 t274 x68_3).f2)) := (blk_cell BK282.out 2).trans rfl
                      have hcz174_3 : wc.cell? ⟨gb282, 3, none⟩ = some (.int .i64 ((rd_T32 t274 x68_3).f3)) := (blk_cell BK282.out 3).trans rfl
                      have hfz174_0 := blk_frozen BK282.out 0
                      have hfz174_1 := blk_frozen BK282.out 1
                      have hfz174_2 := blk_frozen BK282.out 2
                      have hfz174_3 := blk_frozen BK282.out 3
                      go_wp2
                      repeat (go_quiet (fail); try go_wp2)
                      go_roundg kj40
                      case measure => have := HJ4.out; have := HJ15.out; have := HK3.out; have := HJ40.out; omega
                      case rel => exact ⟨(wrap64 (x68_3 + 1)), (by first | rfl | (simp; done) | (simp [*]; done)), H', ⟨by have := HJ4.out; have := HJ15.out; have := HK3.out; have := HJ40.out; omega⟩, ⟨by (with_reducible repeat (first | apply Kd.R_alloc | apply Kd.R_drewN | apply Kd.R_drew)); exact Kd.R_mono HO_5.out (fun _ hk => hk.1)⟩, ⟨by (with_reducible repeat (first | apply Kd.R_alloc | apply Kd.R_drewN | apply Kd.R_drew)); exact Kd.R_mono HO_66.out (fun _ hk => hk.1)⟩, ⟨by (with_reducible repeat (first | refine blk_drewN ?_ _ | refine blk_drew ?_ | refine blk_alloc ?_ _)); exact BK271.out⟩, ⟨by repeat (first | (with_reducible first | exact HB.out | apply below_alloc | apply pw_below_drewN | apply below_drew1 | refine below_set ?_ GE271.out | refine below_set ?_ GE282.out) | exact HB.out)⟩⟩
                   ·rw [if_neg c167] at H
                    have c167b0 : decide (a0_3 ≤ a0_1) = false := decide_eq_false c167
                    clear c167
                    as_aux_lemma =>
                     have H' := Aside0.mk H
                     clear H
                     have hnb175 := NB271_282.out
                     have hnc175 := NB282_271.out
                     have hcz176_0 : wc.cell? ⟨gb271, 0, none⟩ = some (.int .i64 a0_0) := (blk_cell BK271.out 0).trans rfl
                     have hcz176_1 : wc.cell? ⟨gb271, 1, none⟩ = some (.int .i64 a0_1) := (blk_cell BK271.out 1).trans rfl
                     have hcz176_2 : wc.cell? ⟨gb271, 2, none⟩ = some (.int .i64 a0_2) := (blk_cell BK271.out 2).trans rfl
                     have hcz176_3 : wc.cell? ⟨gb271, 3, none⟩ = some (.int .i64 a0_3) := (blk_cell BK271.out 3).trans rfl
                     have hfz176_0 := blk_frozen BK271.out 0
                     have hfz176_1 := blk_frozen BK271.out 1
                     have hfz176_2 := blk_frozen BK271.out 2
                     have hfz176_3 := blk_frozen BK271.out 3
                     go_wp2
                     repeat (go_quiet (fail); try go_wp2)
                     go_roundg kj40
                     case measure => have := HJ4.out; have := HJ15.out; have := HK3.out; have := HJ40.out; omega
                     case rel => exact ⟨(wrap64 (x68_3 + 1)), (by first | rfl | (simp; done) | (simp [*]; done)), H', ⟨by have := HJ4.out; have := HJ15.out; have := HK3.out; have := HJ40.out; omega⟩, ⟨by (with_reducible repeat (first | apply Kd.R_alloc | apply Kd.R_drewN | apply Kd.R_drew)); exact Kd.R_mono HO_5.out (fun _ hk => hk.1)⟩, ⟨by (with_reducible repeat (first | apply Kd.R_alloc | apply Kd.R_drewN | apply Kd.R_drew)); exact Kd.R_mono HO_66.out (fun _ hk => hk.1)⟩, ⟨by (with_reducible repeat (first | refine blk_drewN ?_ _ | refine blk_drew ?_ | refine blk_alloc ?_ _)); exact BK271.out⟩, ⟨by repeat (first | (with_reducible first | exact HB.out | apply below_alloc | apply pw_below_drewN | apply below_drew1 | refine below_set ?_ GE271.out | refine below_set ?_ GE282.out) | exact HB.out)⟩⟩
            ·rw [if_neg c40] at H
             exact absurd H (by simp)
           ·rw [if_neg c39] at H
            exact absurd H (by simp)
          ·rw [if_neg c38] at H
           have c38b0 : decide (x68_3 < (t274.length : Int)) = false := decide_eq_false c38
           clear c38
           as_aux_lemma =>
            obtain rfl := Option.some.inj H
            go_wp2
            repeat (go_quiet (fail); try go_wp2)
            go_ret
            exact ⟨by first | rfl | (simp [errW_none, errW_some] <;> rfl) | (simp [*, errW_none, errW_some] <;> rfl), by repeat (first | (with_reducible first | exact HB.out | apply below_alloc | apply pw_below_drewN | apply below_drew1 | refine below_set ?_ GE271.out) | exact HB.out)⟩
 ·replace c4 := Bool.eq_false_iff.mpr c4
  subst c4
  have H1 : (some false) = some r := by rw [if_neg (show ¬ (false = true) by decide)] at H; exact H
  clear H
  have H := H1
  clear H1
  as_aux_lemma =>
   obtain rfl := Option.some.inj H
   go_enter Try.func10, Try.ntmps10
   go_wp2_with (first | ((with_reducible refine gate_dst (N := 2) rfl ?_); (try (refine gate_guard (by rfl) ?_; dsimp only)); refine box_event ?hg (N := 2) ?hd (cs := #[.int .i64 a0_0, .int .i64 a0_1, .int .i64 a0_2, .int .i64 a0_3]) (t := 32) ?hr ?_; (case hd => rfl); (case hg => rfl); (case hr => first | (go_simp; done) | (go_simp; rfl)); intro gb271 hg w177 hbox hb; have n0_ := Aside0.mk (below_step (by repeat (first | (with_reducible first | exact HB.out | apply below_alloc | apply pw_below_drewN | apply below_drew1) | exact HB.out)) hb); have n1_ := Aside0.mk (hbox); have n2_ := Aside0.mk ((by rw [hg]; exact (below_size (by repeat (first | (with_reducible first | exact HB.out | apply below_alloc | apply pw_below_drewN | apply below_drew1) | exact HB.out))) : w.heap.size ≤ gb271)); have n3_ := Aside0.mk ((by rw [hg]; exact (below_size (by repeat (first | (with_reducible first | exact HB.out | apply below_alloc | apply pw_below_drewN | apply below_drew1) | exact HB.out))) : w.heap.size ≤ gb271)); clear HB; have HB := n0_; have BK271 := n1_; have GW271 := n2_; have GE271 := n3_; clear n0_ n1_ n2_ n3_; clear hb hbox hg) | (go_at_call 22; (with_reducible refine (pointillistlaw16_wakes.calls  false _ A3.out).mono ?_); rintro e w178 ⟨rfl, hb⟩; have n0_ := Aside0.mk (blk_below (g := gb271) (o := .cells #[.int .i64 a0_0, .int .i64 a0_1, .int .i64 a0_2, .int .i64 a0_3] 32 (0, 0)) (by (with_reducible repeat (first | refine blk_drewN ?_ _ | refine blk_drew ?_ | refine blk_alloc ?_ _)); exact BK271.out) hb); have n1_ := Aside0.mk (below_step (by repeat (first | (with_reducible first | exact HB.out | apply below_alloc | apply pw_below_drewN | apply below_drew1 | refine below_set ?_ GE271.out) | exact HB.out)) hb); clear BK271; clear HB; have BK271 := n0_; have HB := n1_; clear n0_ n1_; (try clear hb); (try clear hb2); (try clear hk); (try clear hi)))
   repeat (go_quiet (first | ((with_reducible refine gate_dst (N := 2) rfl ?_); (try (refine gate_guard (by rfl) ?_; dsimp only)); refine box_event ?hg (N := 2) ?hd (cs := #[.int .i64 a0_0, .int .i64 a0_1, .int .i64 a0_2, .int .i64 a0_3]) (t := 32) ?hr ?_; (case hd => rfl); (case hg => rfl); (case hr => first | (go_simp; done) | (go_simp; rfl)); intro gb271 hg w177 hbox hb; have n0_ := Aside0.mk (below_step (by repeat (first | (with_reducible first | exact HB.out | apply below_alloc | apply pw_below_drewN | apply below_drew1) | exact HB.out)) hb); have n1_ := Aside0.mk (hbox); have n2_ := Aside0.mk ((by rw [hg]; exact (below_size (by repeat (first | (with_reducible first | exact HB.out | apply below_alloc | apply pw_below_drewN | apply below_drew1) | exact HB.out))) : w.heap.size ≤ gb271)); have n3_ := Aside0.mk ((by rw [hg]; exact (below_size (by repeat (first | (with_reducible first | exact HB.out | apply below_alloc | apply pw_below_drewN | apply below_drew1) | exact HB.out))) : w.heap.size ≤ gb271)); clear HB; have HB := n0_; have BK271 := n1_; have GW271 := n2_; have GE271 := n3_; clear n0_ n1_ n2_ n3_; clear hb hbox hg) | (go_at_call 22; (with_reducible refine (pointillistlaw16_wakes.calls  false _ A3.out).mono ?_); rintro e w178 ⟨rfl, hb⟩; have n0_ := Aside0.mk (blk_below (g := gb271) (o := .cells #[.int .i64 a0_0, .int .i64 a0_1, .int .i64 a0_2, .int .i64 a0_3] 32 (0, 0)) (by (with_reducible repeat (first | refine blk_drewN ?_ _ | refine blk_drew ?_ | refine blk_alloc ?_ _)); exact BK271.out) hb); have n1_ := Aside0.mk (below_step (by repeat (first | (with_reducible first | exact HB.out | apply below_alloc | apply pw_below_drewN | apply below_drew1 | refine below_set ?_ GE271.out) | exact HB.out)) hb); clear BK271; clear HB; have BK271 := n0_; have HB := n1_; clear n0_ n1_; (try clear hb); (try clear hb2); (try clear hk); (try clear hi))); try go_wp2_with (first | ((with_reducible refine gate_dst (N := 2) rfl ?_); (try (refine gate_guard (by rfl) ?_; dsimp only)); refine box_event ?hg (N := 2) ?hd (cs := #[.int .i64 a0_0, .int .i64 a0_1, .int .i64 a0_2, .int .i64 a0_3]) (t := 32) ?hr ?_; (case hd => rfl); (case hg => rfl); (case hr => first | (go_simp; done) | (go_simp; rfl)); intro gb271 hg w177 hbox hb; have n0_ := Aside0.mk (below_step (by repeat (first | (with_reducible first | exact HB.out | apply below_alloc | apply pw_below_drewN | apply below_drew1) | exact HB.out)) hb); have n1_ := Aside0.mk (hbox); have n2_ := Aside0.mk ((by rw [hg]; exact (below_size (by repeat (first | (with_reducible first | exact HB.out | apply below_alloc | apply pw_below_drewN | apply below_drew1) | exact HB.out))) : w.heap.size ≤ gb271)); have n3_ := Aside0.mk ((by rw [hg]; exact (below_size (by repeat (first | (with_reducible first | exact HB.out | apply below_alloc | apply pw_below_drewN | apply below_drew1) | exact HB.out))) : w.heap.size ≤ gb271)); clear HB; have HB := n0_; have BK271 := n1_; have GW271 := n2_; have GE271 := n3_; clear n0_ n1_ n2_ n3_; clear hb hbox hg) | (go_at_call 22; (with_reducible refine (pointillistlaw16_wakes.calls  false _ A3.out).mono ?_); rintro e w178 ⟨rfl, hb⟩; have n0_ := Aside0.mk (blk_below (g := gb271) (o := .cells #[.int .i64 a0_0, .int .i64 a0_1, .int .i64 a0_2, .int .i64 a0_3] 32 (0, 0)) (by (with_reducible repeat (first | refine blk_drewN ?_ _ | refine blk_drew ?_ | refine blk_alloc ?_ _)); exact BK271.out) hb); have n1_ := Aside0.mk (below_step (by repeat (first | (with_reducible first | exact HB.out | apply below_alloc | apply pw_below_drewN | apply below_drew1 | refine below_set ?_ GE271.out) | exact HB.out)) hb); clear BK271; clear HB; have BK271 := n0_; have HB := n1_; clear n0_ n1_; (try clear hb); (try clear hb2); (try clear hk); (try clear hi))))
   go_ret
   exact ⟨by first | rfl | (simp [errW_none, errW_some] <;> rfl) | (simp [*, errW_none, errW_some] <;> rfl), by repeat (first | (with_reducible first | exact HB.out | apply below_alloc | apply pw_below_drewN | apply below_drew1 | refine below_set ?_ GE271.out) | exact HB.out)⟩

end Go.Proofs.Ytjdpmaachehpnaa.PE
