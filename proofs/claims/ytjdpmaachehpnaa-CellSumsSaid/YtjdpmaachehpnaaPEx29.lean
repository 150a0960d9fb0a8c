-- Printed by xprint.py, a program of this session: the kit's print, with own texts for some functions.
import Derived.Test.YtjdpmaachehpnaaPEx0
import Derived.Test.YtjdpmaachehpnaaPEx13
import Derived.Test.YtjdpmaachehpnaaPEx17
import Derived.Test.YtjdpmaachehpnaaPEx9
import Derived.Test.YtjdpmaachehpnaaCells
namespace Go.Proofs.Ytjdpmaachehpnaa.PE
open Go.RowKit Go.Proofs.YtjdpmaachehpnaaW.PrintWords Go.Proofs.YtjdpmaachehpnaaW.PrintLast Go.Proofs.YtjdpmaachehpnaaW.PrintMore
attribute [local go_sem] max2_int min2_int max_two min_two max_three min_three max_four min_four   -- for this text's walks alone
set_option linter.unusedVariables false
set_option linter.unusedSimpArgs false

/-! ### pointillistlaw16_CellSums: function 12 -/
mutual
def pointillistlaw16_CellSums.j0 : Nat → Int → Bool → Int → Int → Int → Int → Option (Bool)
  | 0, _, _, _, _, _, _ => none
  | k + 1, x1, x17, x300000, x300001, x300002, x300003 => if x17 = true then (some true) else ((pointillistlaw16_cells.f x300000 x300001 x300002 x300003 (wrap64 (x1)) 999).bind fun t302 => (pointillistlaw16_CellSums.l0 k x1 0 t302 (t302.length : Int) 0 x300000 x300001 x300002 x300003))
def pointillistlaw16_CellSums.l0 : Nat → Int → Int → List (S58) → Int → Int → Int → Int → Int → Int → Option (Bool)
  | 0, _, _, _, _, _, _, _, _, _ => none
  | k + 1, x1, x5, x21, x22, x23, x300000, x300001, x300002, x300003 => if x23 < x22 then (if 0 ≤ x23 then (if x23 < (x21.length : Int) then (if ((rd_T58 x21 x23).f1.f0) > 0 then (if ((rd_T58 x21 x23).f1.f1) < 0 then (pointillistlaw16_CellSums.j2 k x1 (wrap64 (x5 + ((rd_T58 x21 x23).f1.f0))) x21 x22 x23 true x300000 x300001 x300002 x300003 ((rd_T58 x21 x23).f1.f0) ((rd_T58 x21 x23).f1.f1)) else (if ((rd_T58 x21 x23).f1.f1) > (wrap64 (((rd_T58 x21 x23).f1.f0) * 131072)) then (pointillistlaw16_CellSums.j2 k x1 (wrap64 (x5 + ((rd_T58 x21 x23).f1.f0))) x21 x22 x23 true x300000 x300001 x300002 x300003 ((rd_T58 x21 x23).f1.f0) ((rd_T58 x21 x23).f1.f1)) else (if ((rd_T58 x21 x23).f1.f0) < 0 then (if ((rd_T58 x21 x23).f1.f1) > 0 then (pointillistlaw16_CellSums.j2 k x1 (wrap64 (x5 + ((rd_T58 x21 x23).f1.f0))) x21 x22 x23 true x300000 x300001 x300002 x300003 ((rd_T58 x21 x23).f1.f0) ((rd_T58 x21 x23).f1.f1)) else (if ((rd_T58 x21 x23).f1.f1) < (wrap64 (((rd_T58 x21 x23).f1.f0) * 131072)) then (pointillistlaw16_CellSums.j2 k x1 (wrap64 (x5 + ((rd_T58 x21 x23).f1.f0))) x21 x22 x23 true x300000 x300001 x300002 x300003 ((rd_T58 x21 x23).f1.f0) ((rd_T58 x21 x23).f1.f1)) else (if ((rd_T58 x21 x23).f1.f0) = 0 then (pointillistlaw16_CellSums.j2 k x1 (wrap64 (x5 + ((rd_T58 x21 x23).f1.f0))) x21 x22 x23 true x300000 x300001 x300002 x300003 ((rd_T58 x21 x23).f1.f0) ((rd_T58 x21 x23).f1.f1)) else (if ((rd_T58 x21 x23).f0) < 0 then (pointillistlaw16_CellSums.j2 k x1 (wrap64 (x5 + ((rd_T58 x21 x23).f1.f0))) x21 x22 x23 true x300000 x300001 x300002 x300003 ((rd_T58 x21 x23).f1.f0) ((rd_T58 x21 x23).f1.f1)) else (pointillistlaw16_CellSums.j2 k x1 (wrap64 (x5 + ((rd_T58 x21 x23).f1.f0))) x21 x22 x23 (decide (((rd_T58 x21 x23).f0) ≥ (wrap64 (x1)))) x300000 x300001 x300002 x300003 ((rd_T58 x21 x23).f1.f0) ((rd_T58 x21 x23).f1.f1)))))) else (if ((rd_T58 x21 x23).f1.f0) = 0 then (pointillistlaw16_CellSums.j2 k x1 (wrap64 (x5 + ((rd_T58 x21 x23).f1.f0))) x21 x22 x23 true x300000 x300001 x300002 x300003 ((rd_T58 x21 x23).f1.f0) ((rd_T58 x21 x23).f1.f1)) else (if ((rd_T58 x21 x23).f0) < 0 then (pointillistlaw16_CellSums.j2 k x1 (wrap64 (x5 + ((rd_T58 x21 x23).f1.f0))) x21 x22 x23 true x300000 x300001 x300002 x300003 ((rd_T58 x21 x23).f1.f0) ((rd_T58 x21 x23).f1.f1)) else (pointillistlaw16_CellSums.j2 k x1 (wrap64 (x5 + ((rd_T58 x21 x23).f1.f0))) x21 x22 x23 (decide (((rd_T58 x21 x23).f0) ≥ (wrap64 (x1)))) x300000 x300001 x300002 x300003 ((rd_T58 x21 x23).f1.f0) ((rd_T58 x21 x23).f1.f1))))))) else (if ((rd_T58 x21 x23).f1.f0) < 0 then (if ((rd_T58 x21 x23).f1.f1) > 0 then (pointillistlaw16_CellSums.j2 k x1 (wrap64 (x5 + ((rd_T58 x21 x23).f1.f0))) x21 x22 x23 true x300000 x300001 x300002 x300003 ((rd_T58 x21 x23).f1.f0) ((rd_T58 x21 x23).f1.f1)) else (if ((rd_T58 x21 x23).f1.f1) < (wrap64 (((rd_T58 x21 x23).f1.f0) * 131072)) then (pointillistlaw16_CellSums.j2 k x1 (wrap64 (x5 + ((rd_T58 x21 x23).f1.f0))) x21 x22 x23 true x300000 x300001 x300002 x300003 ((rd_T58 x21 x23).f1.f0) ((rd_T58 x21 x23).f1.f1)) else (if ((rd_T58 x21 x23).f1.f0) = 0 then (pointillistlaw16_CellSums.j2 k x1 (wrap64 (x5 + ((rd_T58 x21 x23).f1.f0))) x21 x22 x23 true x300000 x300001 x300002 x300003 ((rd_T58 x21 x23).f1.f0) ((rd_T58 x21 x23).f1.f1)) else (if ((rd_T58 x21 x23).f0) < 0 then (pointillistlaw16_CellSums.j2 k x1 (wrap64 (x5 + ((rd_T58 x21 x23).f1.f0))) x21 x22 x23 true x300000 x300001 x300002 x300003 ((rd_T58 x21 x23).f1.f0) ((rd_T58 x21 x23).f1.f1)) else (pointillistlaw16_CellSums.j2 k x1 (wrap64 (x5 + ((rd_T58 x21 x23).f1.f0))) x21 x22 x23 (decide (((rd_T58 x21 x23).f0) ≥ (wrap64 (x1)))) x300000 x300001 x300002 x300003 ((rd_T58 x21 x23).f1.f0) ((rd_T58 x21 x23).f1.f1)))))) else (if ((rd_T58 x21 x23).f1.f0) = 0 then (pointillistlaw16_CellSums.j2 k x1 (wrap64 (x5 + ((rd_T58 x21 x23).f1.f0))) x21 x22 x23 true x300000 x300001 x300002 x300003 ((rd_T58 x21 x23).f1.f0) ((rd_T58 x21 x23).f1.f1)) else (if ((rd_T58 x21 x23).f0) < 0 then (pointillistlaw16_CellSums.j2 k x1 (wrap64 (x5 + ((rd_T58 x21 x23).f1.f0))) x21 x22 x23 true x300000 x300001 x300002 x300003 ((rd_T58 x21 x23).f1.f0) ((rd_T58 x21 x23).f1.f1)) else (pointillistlaw16_CellSums.j2 k x1 (wrap64 (x5 + ((rd_T58 x21 x23).f1.f0))) x21 x22 x23 (decide (((rd_T58 x21 x23).f0) ≥ (wrap64 (x1)))) x300000 x300001 x300002 x300003 ((rd_T58 x21 x23).f1.f0) ((rd_T58 x21 x23).f1.f1)))))) else (none)) else (none)) else (if (mx x300000 x300002) < (wrap64 ((wrap64 (x1)) * 65536)) then (some (x5 == (wrap64 (x300003 - x300001)))) else (if (mn x300000 x300002) < (wrap64 ((wrap64 (x1)) * 65536)) then (some true) else (some (x5 == 0))))
def pointillistlaw16_CellSums.j2 : Nat → Int → Int → List (S58) → Int → Int → Bool → Int → Int → Int → Int → Int → Int → Option (Bool)
  | 0, _, _, _, _, _, _, _, _, _, _, _, _ => none
  | k + 1, x1, x5, x21, x22, x23, x83, x300000, x300001, x300002, x300003, x308000, x308001 => if x83 = true then (some false) else ((cell_Weight.f x308000 x308001).bind fun t308 => (if t308 = (wrap64 ((wrap64 (x308000 * 131072)) - x308001)) then (pointillistlaw16_CellSums.l0 k x1 x5 x21 x22 (wrap64 (x23 + 1)) x300000 x300001 x300002 x300003) else (some false)))
end
def pointillistlaw16_CellSums.f (k : Nat) (a0_0 : Int) (a0_1 : Int) (a0_2 : Int) (a0_3 : Int) (a1 : Int) : Option (Bool) := (pointillistlaw16_wakes.f).bind fun t300 => (if t300 = true then ((pointillistref16_Right.f a0_0 a0_1 a0_2 a0_3).bind fun t301 => (if t301 = true then (pointillistlaw16_CellSums.j0 k a1 (a1 == 0) a0_0 a0_1 a0_2 a0_3) else (pointillistlaw16_CellSums.j0 k a1 true a0_0 a0_1 a0_2 a0_3))) else (some false))
theorem pointillistlaw16_CellSums.mono_l : ∀ k, (∀ y0 y1 y2 y3 y4 y5, LeO (pointillistlaw16_CellSums.j0 k y0 y1 y2 y3 y4 y5) (pointillistlaw16_CellSums.j0 (k + 1) y0 y1 y2 y3 y4 y5)) ∧ (∀ y0 y1 y2 y3 y4 y5 y6 y7 y8, LeO (pointillistlaw16_CellSums.l0 k y0 y1 y2 y3 y4 y5 y6 y7 y8) (pointillistlaw16_CellSums.l0 (k + 1) y0 y1 y2 y3 y4 y5 y6 y7 y8)) ∧ (∀ y0 y1 y2 y3 y4 y5 y6 y7 y8 y9 y10 y11, LeO (pointillistlaw16_CellSums.j2 k y0 y1 y2 y3 y4 y5 y6 y7 y8 y9 y10 y11) (pointillistlaw16_CellSums.j2 (k + 1) y0 y1 y2 y3 y4 y5 y6 y7 y8 y9 y10 y11))
  | 0 => ⟨fun _ _ _ _ _ _ r h => by simp [pointillistlaw16_CellSums.j0] at h, fun _ _ _ _ _ _ _ _ _ r h => by simp [pointillistlaw16_CellSums.l0] at h, fun _ _ _ _ _ _ _ _ _ _ _ _ r h => by simp [pointillistlaw16_CellSums.j2] at h⟩
  | k + 1 => by
    obtain ⟨ih0, ih1, ih2⟩ := pointillistlaw16_CellSums.mono_l k
    refine ⟨?_, ?_, ?_⟩
    · intro y0 y1 y2 y3 y4 y5
      unfold pointillistlaw16_CellSums.j0
      repeat' first
      | (with_reducible exact ih0 _ _ _ _ _ _)
      | (with_reducible exact ih1 _ _ _ _ _ _ _ _ _)
      | (with_reducible exact ih2 _ _ _ _ _ _ _ _ _ _ _ _)
      | (with_reducible exact LeO.refl _)
      | (with_reducible exact LeO.none _)
      | (with_reducible refine LeO.ite ?_ ?_)
      | (with_reducible refine LeO.bind ?_ (fun _ => ?_))
      | exact ih0 _ _ _ _ _ _
      | exact ih1 _ _ _ _ _ _ _ _ _
      | exact ih2 _ _ _ _ _ _ _ _ _ _ _ _
      | exact LeO.none _
      | refine LeO.ite ?_ ?_
      | refine LeO.bind ?_ (fun _ => ?_)
    · intro y0 y1 y2 y3 y4 y5 y6 y7 y8
      unfold pointillistlaw16_CellSums.l0
      repeat' first
      | (with_reducible exact ih0 _ _ _ _ _ _)
      | (with_reducible exact ih1 _ _ _ _ _ _ _ _ _)
      | (with_reducible exact ih2 _ _ _ _ _ _ _ _ _ _ _ _)
      | (with_reducible exact LeO.refl _)
      | (with_reducible exact LeO.none _)
      | (with_reducible refine LeO.ite ?_ ?_)
      | (with_reducible refine LeO.bind ?_ (fun _ => ?_))
      | exact ih0 _ _ _ _ _ _
      | exact ih1 _ _ _ _ _ _ _ _ _
      | exact ih2 _ _ _ _ _ _ _ _ _ _ _ _
      | exact LeO.none _
      | refine LeO.ite ?_ ?_
      | refine LeO.bind ?_ (fun _ => ?_)
    · intro y0 y1 y2 y3 y4 y5 y6 y7 y8 y9 y10 y11
      unfold pointillistlaw16_CellSums.j2
      repeat' first
      | (with_reducible exact ih0 _ _ _ _ _ _)
      | (with_reducible exact ih1 _ _ _ _ _ _ _ _ _)
      | (with_reducible exact ih2 _ _ _ _ _ _ _ _ _ _ _ _)
      | (with_reducible exact LeO.refl _)
      | (with_reducible exact LeO.none _)
      | (with_reducible refine LeO.ite ?_ ?_)
      | (with_reducible refine LeO.bind ?_ (fun _ => ?_))
      | exact ih0 _ _ _ _ _ _
      | exact ih1 _ _ _ _ _ _ _ _ _
      | exact ih2 _ _ _ _ _ _ _ _ _ _ _ _
      | exact LeO.none _
      | refine LeO.ite ?_ ?_
      | refine LeO.bind ?_ (fun _ => ?_)
theorem pointillistlaw16_CellSums.mono : ∀ a0 a1 a2 a3 a4 k, LeO (pointillistlaw16_CellSums.f k a0 a1 a2 a3 a4) (pointillistlaw16_CellSums.f (k + 1) a0 a1 a2 a3 a4) := by
  intro a0 a1 a2 a3 a4 k
  obtain ⟨ih0, ih1, ih2⟩ := pointillistlaw16_CellSums.mono_l k
  unfold pointillistlaw16_CellSums.f
  repeat' first
      | (with_reducible exact ih0 _ _ _ _ _ _)
      | (with_reducible exact ih1 _ _ _ _ _ _ _ _ _)
      | (with_reducible exact ih2 _ _ _ _ _ _ _ _ _ _ _ _)
      | (with_reducible exact LeO.refl _)
      | (with_reducible exact LeO.none _)
      | (with_reducible refine LeO.ite ?_ ?_)
      | (with_reducible refine LeO.bind ?_ (fun _ => ?_))
      | exact ih0 _ _ _ _ _ _
      | exact ih1 _ _ _ _ _ _ _ _ _
      | exact ih2 _ _ _ _ _ _ _ _ _ _ _ _
      | exact LeO.none _
      | refine LeO.ite ?_ ?_
      | refine LeO.bind ?_ (fun _ => ?_)
def pointillistlaw16_CellSums.T13 : Bool × List (List Nat × List Nat) := (true, [([], []), ([0], [0]), ([], []), ([2], [2]), ([3], [3]), ([], []), ([5], [5]), ([4, 6], [4, 6]), ([1, 7], [1, 7])])
def pointillistlaw16_CellSums.B13 : List Nat := [0, 1, 0, 4, 12, 0, 32, 124, 255]
theorem pointillistlaw16_CellSums.tab13 : rtab .any (opsOf Try.f12 13) = pointillistlaw16_CellSums.T13 := by kernel_rfl
theorem pointillistlaw16_CellSums.bits13 : waitsOk pointillistlaw16_CellSums.T13.2 pointillistlaw16_CellSums.B13 = true := by kernel_rfl
set_option maxHeartbeats 8000000 in
set_option maxRecDepth 100000 in
theorem pointillistlaw16_CellSums.calls (k : Nat) (a0_0 : Int) (a0_1 : Int) (a0_2 : Int) (a0_3 : Int) (a1 : Int) (r : Bool) (w : World) (h : pointillistlaw16_CellSums.f k a0_0 a0_1 a0_2 a0_3 a1 = some r) :
    Calls Try.prog 12 #[.agg #[.int .i64 a0_0, .int .i64 a0_1, .int .i64 a0_2, .int .i64 a0_3], .int .u8 a1] w fun e w' => e = .returned (.bool r) ∧ Below w.heap.size w w' := by
  have hu32 := Try.underlying32
  have hu58 := Try.underlying58
  have hu56 := Try.underlying56
  have HB := Aside0.mk (Below.refl w.heap.size w)
  have H : ((pointillistlaw16_wakes.f).bind fun t300 => (if t300 = true then ((pointillistref16_Right.f a0_0 a0_1 a0_2 a0_3).bind fun t301 => (if t301 = true then (pointillistlaw16_CellSums.j0 k a1 (a1 == 0) a0_0 a0_1 a0_2 a0_3) else (pointillistlaw16_CellSums.j0 k a1 true a0_0 a0_1 a0_2 a0_3))) else (some false))) = some r := h
  clear h
  replace H := Option.bind_eq_some_iff.mp H
  obtain ⟨t300, A30, H⟩ := H
  replace H : (if t300 = true then ((pointillistref16_Right.f a0_0 a0_1 a0_2 a0_3).bind fun t301 => (if t301 = true then (pointillistlaw16_CellSums.j0 k a1 (a1 == 0) a0_0 a0_1 a0_2 a0_3) else (pointillistlaw16_CellSums.j0 k a1 true a0_0 a0_1 a0_2 a0_3))) else (some false)) = some r := H
  have A3 := Aside0.mk A30
  clear A30
  by_cases c4 : t300 = true
  · subst c4
    have H1 : ((pointillistref16_Right.f a0_0 a0_1 a0_2 a0_3).bind fun t301 => (if t301 = true then (pointillistlaw16_CellSums.j0 k a1 (a1 == 0) a0_0 a0_1 a0_2 a0_3) else (pointillistlaw16_CellSums.j0 k a1 true a0_0 a0_1 a0_2 a0_3))) = some r := by rw [if_pos rfl] at H; exact H
    clear H
    have H := H1
    clear H1
    have HC5 := Aside0.mk H
    clear H
    go_enter Try.func12, Try.ntmps12
    go_upto_region 3 with (first | ((with_reducible refine gate_dst (N := 2) rfl ?_); refine box_event ?hg (N := 2) ?hd (cs := #[.int .i64 a0_0, .int .i64 a0_1, .int .i64 a0_2, .int .i64 a0_3]) (t := 32) ?hr ?_; (case hd => rfl); (case hg => rfl); (case hr => first | (go_simp; done) | (go_simp; rfl)); intro gb299 hg w6 hbox hb; have n0_ := Aside0.mk (below_step (by repeat (first | (with_reducible first | exact HB.out | apply below_alloc | apply pw_below_drewN | apply below_drew1) | exact HB.out)) hb); have n1_ := Aside0.mk (hbox); have n2_ := Aside0.mk ((by rw [hg]; exact (below_size (by repeat (first | (with_reducible first | exact HB.out | apply below_alloc | apply pw_below_drewN | apply below_drew1) | exact HB.out))) : w.heap.size ≤ gb299)); have n3_ := Aside0.mk ((by rw [hg]; exact (below_size (by repeat (first | (with_reducible first | exact HB.out | apply below_alloc | apply pw_below_drewN | apply below_drew1) | exact HB.out))) : w.heap.size ≤ gb299)); clear HB; have HB := n0_; have BK299 := n1_; have GW299 := n2_; have GE299 := n3_; clear n0_ n1_ n2_ n3_; clear hb hbox hg) | ((with_reducible refine gate_callee (f := 22) rfl ?_); refine goesL_ (some 9) rfl rfl Try.func22 (by kernel_rfl) rfl #[] rfl (by (try simp only [List.map_toArray, List.map_cons, List.map_nil]); first | done | rfl | (simp only [List.length_drop, List.length_take]; rfl)) ?_; (with_reducible refine (pointillistlaw16_wakes.calls  true _ A3.out).mono ?_); rintro e w7 ⟨rfl, hb⟩; refine ⟨_, rfl, ?_⟩; have n0_ := Aside0.mk (blk_below (g := gb299) (o := .cells #[.int .i64 a0_0, .int .i64 a0_1, .int .i64 a0_2, .int .i64 a0_3] 32 (0, 0)) (by (with_reducible repeat (first | refine blk_drewN ?_ _ | refine blk_drew ?_ | refine blk_alloc ?_ _)); exact BK299.out) hb); have n1_ := Aside0.mk (below_step (by repeat (first | (with_reducible first | exact HB.out | apply below_alloc | apply pw_below_drewN | apply below_drew1 | refine below_set ?_ GE299.out) | exact HB.out)) hb); clear BK299; clear HB; have BK299 := n0_; have HB := n1_; clear n0_ n1_; (try clear hb); (try clear hb2); (try clear hk); (try clear hi)))
    (try simp only [Act.put, List.setIfInBounds_toArray, List.set_cons_zero, List.set_cons_succ])
    go_cut [17] (fun v17 wc => ∃ (kq : Nat) (x17_4 : Bool), v17 = .bool x17_4 ∧ Aside0 (pointillistlaw16_CellSums.j0 kq a1 x17_4 a0_0 a0_1 a0_2 a0_3 = some r) ∧ Aside0 (kq ≤ k) ∧ Aside0 (wc.heap[gb299]? = some (.cells #[.int .i64 a0_0, .int .i64 a0_1, .int .i64 a0_2, .int .i64 a0_3] 32 (0, 0))) ∧ Aside0 (Below w.heap.size w wc))
    case first =>
      have H := HC5.out
      clear HC5
      replace H := Option.bind_eq_some_iff.mp H
      obtain ⟨t301, A80, H⟩ := H
      replace H : (if t301 = true then (pointillistlaw16_CellSums.j0 k a1 (a1 == 0) a0_0 a0_1 a0_2 a0_3) else (pointillistlaw16_CellSums.j0 k a1 true a0_0 a0_1 a0_2 a0_3)) = some r := H
      have A8 := Aside0.mk A80
      clear A80
      by_cases c9 : t301 = true
      · subst c9
        have H1 : (pointillistlaw16_CellSums.j0 k a1 (a1 == 0) a0_0 a0_1 a0_2 a0_3) = some r := by rw [if_pos rfl] at H; exact H
        clear H
        have H := H1
        clear H1
        have H' := Aside0.mk H
        clear H
        have hcz10_0 : w7.cell? ⟨gb299, 0, none⟩ = some (.int .i64 a0_0) := (blk_cell BK299.out 0).trans rfl
        have hcz10_1 : w7.cell? ⟨gb299, 1, none⟩ = some (.int .i64 a0_1) := (blk_cell BK299.out 1).trans rfl
        have hcz10_2 : w7.cell? ⟨gb299, 2, none⟩ = some (.int .i64 a0_2) := (blk_cell BK299.out 2).trans rfl
        have hcz10_3 : w7.cell? ⟨gb299, 3, none⟩ = some (.int .i64 a0_3) := (blk_cell BK299.out 3).trans rfl
        have hfz10_0 := blk_frozen BK299.out 0
        have hfz10_1 := blk_frozen BK299.out 1
        have hfz10_2 := blk_frozen BK299.out 2
        have hfz10_3 := blk_frozen BK299.out 3
        go_wp2_with (first | ((with_reducible refine gate_callee (f := 23) rfl ?_); refine goesL_ (some 12) rfl rfl Try.func23 (by kernel_rfl) rfl #[.agg #[.int .i64 a0_0, .int .i64 a0_1, .int .i64 a0_2, .int .i64 a0_3]] rfl (by (try simp only [List.map_toArray, List.map_cons, List.map_nil]); first | done | rfl | (simp only [List.length_drop, List.length_take]; rfl)) ?_; (with_reducible refine (pointillistref16_Right.calls a0_0 a0_1 a0_2 a0_3 true _ A8.out).mono ?_); rintro e w11 ⟨rfl, hb⟩; refine ⟨_, rfl, ?_⟩; have n0_ := Aside0.mk (blk_below (g := gb299) (o := .cells #[.int .i64 a0_0, .int .i64 a0_1, .int .i64 a0_2, .int .i64 a0_3] 32 (0, 0)) (by (with_reducible repeat (first | refine blk_drewN ?_ _ | refine blk_drew ?_ | refine blk_alloc ?_ _)); exact BK299.out) hb); have n1_ := Aside0.mk (below_step (by repeat (first | (with_reducible first | exact HB.out | apply below_alloc | apply pw_below_drewN | apply below_drew1 | refine below_set ?_ GE299.out) | exact HB.out)) hb); clear BK299; clear HB; have BK299 := n0_; have HB := n1_; clear n0_ n1_; (try clear hb); (try clear hb2); (try clear hk); (try clear hi)))
        go_meet
        case rel => exact ⟨_, ((a1 == 0)), (by first | rfl | (simp; done) | (simp [*]; done)), H', ⟨by first | omega | exact Nat.le_refl _⟩, ⟨by (with_reducible repeat (first | refine blk_drewN ?_ _ | refine blk_drew ?_ | refine blk_alloc ?_ _)); exact BK299.out⟩, ⟨by repeat (first | (with_reducible first | exact HB.out | apply below_alloc | apply pw_below_drewN | apply below_drew1 | refine below_set ?_ GE299.out) | exact HB.out)⟩⟩
      · replace c9 := Bool.eq_false_iff.mpr c9
        subst c9
        have H1 : (pointillistlaw16_CellSums.j0 k a1 true a0_0 a0_1 a0_2 a0_3) = some r := by rw [if_neg (show ¬ (false = true) by decide)] at H; exact H
        clear H
        have H := H1
        clear H1
        have H' := Aside0.mk H
        clear H
        have hcz12_0 : w7.cell? ⟨gb299, 0, none⟩ = some (.int .i64 a0_0) := (blk_cell BK299.out 0).trans rfl
        have hcz12_1 : w7.cell? ⟨gb299, 1, none⟩ = some (.int .i64 a0_1) := (blk_cell BK299.out 1).trans rfl
        have hcz12_2 : w7.cell? ⟨gb299, 2, none⟩ = some (.int .i64 a0_2) := (blk_cell BK299.out 2).trans rfl
        have hcz12_3 : w7.cell? ⟨gb299, 3, none⟩ = some (.int .i64 a0_3) := (blk_cell BK299.out 3).trans rfl
        have hfz12_0 := blk_frozen BK299.out 0
        have hfz12_1 := blk_frozen BK299.out 1
        have hfz12_2 := blk_frozen BK299.out 2
        have hfz12_3 := blk_frozen BK299.out 3
        go_wp2_with (first | ((with_reducible refine gate_callee (f := 23) rfl ?_); refine goesL_ (some 12) rfl rfl Try.func23 (by kernel_rfl) rfl #[.agg #[.int .i64 a0_0, .int .i64 a0_1, .int .i64 a0_2, .int .i64 a0_3]] rfl (by (try simp only [List.map_toArray, List.map_cons, List.map_nil]); first | done | rfl | (simp only [List.length_drop, List.length_take]; rfl)) ?_; (with_reducible refine (pointillistref16_Right.calls a0_0 a0_1 a0_2 a0_3 false _ A8.out).mono ?_); rintro e w13 ⟨rfl, hb⟩; refine ⟨_, rfl, ?_⟩; have n0_ := Aside0.mk (blk_below (g := gb299) (o := .cells #[.int .i64 a0_0, .int .i64 a0_1, .int .i64 a0_2, .int .i64 a0_3] 32 (0, 0)) (by (with_reducible repeat (first | refine blk_drewN ?_ _ | refine blk_drew ?_ | refine blk_alloc ?_ _)); exact BK299.out) hb); have n1_ := Aside0.mk (below_step (by repeat (first | (with_reducible first | exact HB.out | apply below_alloc | apply pw_below_drewN | apply below_drew1 | refine below_set ?_ GE299.out) | exact HB.out)) hb); clear BK299; clear HB; have BK299 := n0_; have HB := n1_; clear n0_ n1_; (try clear hb); (try clear hb2); (try clear hk); (try clear hi)))
        go_meet
        case rel => exact ⟨_, (true), (by first | rfl | (simp; done) | (simp [*]; done)), H', ⟨by first | omega | exact Nat.le_refl _⟩, ⟨by (with_reducible repeat (first | refine blk_drewN ?_ _ | refine blk_drew ?_ | refine blk_alloc ?_ _)); exact BK299.out⟩, ⟨by repeat (first | (with_reducible first | exact HB.out | apply below_alloc | apply pw_below_drewN | apply below_drew1 | refine below_set ?_ GE299.out) | exact HB.out)⟩⟩
    case rest =>
      clear HC5
      try clear c1
      try clear c2
      try clear p2
      try clear c4
      try clear c9
      try clear c12
      try clear hcz10_0
      try clear hcz10_1
      try clear hcz10_2
      try clear hcz10_3
      try clear hcz12_0
      try clear hcz12_1
      try clear hcz12_2
      try clear hcz12_3
      try clear hfz10_0
      try clear hfz10_1
      try clear hfz10_2
      try clear hfz10_3
      try clear hfz12_0
      try clear hfz12_1
      try clear hfz12_2
      try clear hfz12_3
      obtain ⟨kq, x17_4, rfl, HA, HJ4, BK299, HB⟩ := hcut
      cases kq with
      | zero => exact absurd HA.out (by simp [pointillistlaw16_CellSums.j0])
      | succ kj4 =>
        have H := HA.out
        clear HA
        simp only [pointillistlaw16_CellSums.j0] at H
        by_cases c14 : x17_4 = true
        · subst c14
          have H1 : (some true) = some r := by rw [if_pos rfl] at H; exact H
          clear H
          have H := H1
          clear H1
          obtain rfl := Option.some.inj H
          go_wp2
          go_ret
          exact ⟨by first | rfl | (simp [errW_none, errW_some] <;> rfl) | (simp [*, errW_none, errW_some] <;> rfl), by repeat (first | (with_reducible first | exact HB.out | apply below_alloc | apply pw_below_drewN | apply below_drew1 | refine below_set ?_ GE299.out) | exact HB.out)⟩
        · replace c14 := Bool.eq_false_iff.mpr c14
          subst c14
          have H1 : ((pointillistlaw16_cells.f a0_0 a0_1 a0_2 a0_3 (wrap64 (a1)) 999).bind fun t302 => (pointillistlaw16_CellSums.l0 kj4 a1 0 t302 (t302.length : Int) 0 a0_0 a0_1 a0_2 a0_3)) = some r := by rw [if_neg (show ¬ (false = true) by decide)] at H; exact H
          clear H
          have H := H1
          clear H1
          replace H := Option.bind_eq_some_iff.mp H
          obtain ⟨t302, A150, H⟩ := H
          replace H : (pointillistlaw16_CellSums.l0 kj4 a1 0 t302 (t302.length : Int) 0 a0_0 a0_1 a0_2 a0_3) = some r := H
          have A15 := Aside0.mk A150
          clear A150
          have H' := Aside0.mk H
          clear H
          have hcz16_0 : wc.cell? ⟨gb299, 0, none⟩ = some (.int .i64 a0_0) := (blk_cell BK299.out 0).trans rfl
          have hcz16_1 : wc.cell? ⟨gb299, 1, none⟩ = some (.int .i64 a0_1) := (blk_cell BK299.out 1).trans rfl
          have hcz16_2 : wc.cell? ⟨gb299, 2, none⟩ = some (.int .i64 a0_2) := (blk_cell BK299.out 2).trans rfl
          have hcz16_3 : wc.cell? ⟨gb299, 3, none⟩ = some (.int .i64 a0_3) := (blk_cell BK299.out 3).trans rfl
          have hfz16_0 := blk_frozen BK299.out 0
          have hfz16_1 := blk_frozen BK299.out 1
          have hfz16_2 := blk_frozen BK299.out 2
          have hfz16_3 := blk_frozen BK299.out 3
          go_wp2_with (first | ((with_reducible refine gate_callee (f := 27) rfl ?_); refine goesL_ (some 21) rfl rfl Try.func27 (by kernel_rfl) rfl #[.agg #[.int .i64 a0_0, .int .i64 a0_1, .int .i64 a0_2, .int .i64 a0_3], .int .i64 (wrap64 (a1)), .int .i64 999] rfl (by (try simp only [List.map_toArray, List.map_cons, List.map_nil]); first | done | rfl | (simp only [List.length_drop, List.length_take]; rfl)) ?_; (with_reducible refine (pointillistlaw16_cells.calls a0_0 a0_1 a0_2 a0_3 (wrap64 (a1)) 999 t302 _ A15.out).mono ?_); rintro e w17 ⟨v303, rfl, ho0, hb⟩; refine ⟨_, rfl, ?_⟩; have n0_ := Aside0.mk (Kd.R_lower ho0 (below_size (by repeat (first | (with_reducible first | exact HB.out | apply below_alloc | apply pw_below_drewN | apply below_drew1 | refine below_set ?_ GE299.out) | exact HB.out)))); have n1_ := Aside0.mk (blk_below (g := gb299) (o := .cells #[.int .i64 a0_0, .int .i64 a0_1, .int .i64 a0_2, .int .i64 a0_3] 32 (0, 0)) (by (with_reducible repeat (first | refine blk_drewN ?_ _ | refine blk_drew ?_ | refine blk_alloc ?_ _)); exact BK299.out) hb); have n2_ := Aside0.mk (below_step (by repeat (first | (with_reducible first | exact HB.out | apply below_alloc | apply pw_below_drewN | apply below_drew1 | refine below_set ?_ GE299.out) | exact HB.out)) hb); clear BK299; clear HB; have HO304 := n0_; have BK299 := n1_; have HB := n2_; clear n0_ n1_ n2_; (try clear hb); (try clear hb2); (try clear hk); (try clear hi); (try clear ho0); obtain ⟨Ao18, co18, eo18⟩ := Kd.R_slice HO304.out; subst eo18))
          go_loopg [5, 23] kj4 (fun kq v5 v23 w' => ∃ (x5_2 : Int) (x23_2 : Int), v5 = .int .i64 x5_2 ∧ v23 = .int .i64 x23_2 ∧ Aside0 (pointillistlaw16_CellSums.l0 kq a1 x5_2 t302 (t302.length : Int) x23_2 a0_0 a0_1 a0_2 a0_3 = some r) ∧ Aside0 (kq ≤ kj4) ∧ Aside0 (Kd.R k58 58 w' w.heap.size (fun _ => True) (.slice Ao18 t302.length co18) t302) ∧ Aside0 (w'.heap[gb299]? = some (.cells #[.int .i64 a0_0, .int .i64 a0_1, .int .i64 a0_2, .int .i64 a0_3] 32 (0, 0))) ∧ Aside0 (Below w.heap.size w w'))
          case atStart => exact ⟨(0), (0), (by first | rfl | (simp; done) | (simp [*]; done)), (by first | rfl | (simp; done) | (simp [*]; done)), H', ⟨Nat.le_refl _⟩, ⟨by (with_reducible repeat (first | apply Kd.R_alloc | apply Kd.R_drewN | apply Kd.R_drew)); exact HO304.out⟩, ⟨by (with_reducible repeat (first | refine blk_drewN ?_ _ | refine blk_drew ?_ | refine blk_alloc ?_ _)); exact BK299.out⟩, ⟨by repeat (first | (with_reducible first | exact HB.out | apply below_alloc | apply pw_below_drewN | apply below_drew1 | refine below_set ?_ GE299.out) | exact HB.out)⟩⟩
          case round =>
            clear H'
            try clear c1
            try clear c2
            try clear p2
            try clear c4
            try clear p6
            try clear c9
            try clear c12
            try clear c14
            try clear hcz10_0
            try clear hcz10_1
            try clear hcz10_2
            try clear hcz10_3
            try clear hcz12_0
            try clear hcz12_1
            try clear hcz12_2
            try clear hcz12_3
            try clear hcz16_0
            try clear hcz16_1
            try clear hcz16_2
            try clear hcz16_3
            try clear hfz10_0
            try clear hfz10_1
            try clear hfz10_2
            try clear hfz10_3
            try clear hfz12_0
            try clear hfz12_1
            try clear hfz12_2
            try clear hfz12_3
            try clear hfz16_0
            try clear hfz16_1
            try clear hfz16_2
            try clear hfz16_3
            try clear p2
            obtain ⟨x5_2, x23_2, rfl, rfl, HA, HK2, HO_21, BK299, HB⟩ := hrel
            cases gk with
            | zero => exact absurd HA.out (by simp [pointillistlaw16_CellSums.l0])
            | succ k2 =>
              have H := HA.out
              clear HA
              simp only [pointillistlaw16_CellSums.l0] at H
              by_cases c19 : x23_2 < (t302.length : Int)
              · rw [if_pos c19] at H
                have c19b0 : decide (x23_2 < (t302.length : Int)) = true := decide_eq_true c19
                clear c19
                by_cases c20 : 0 ≤ x23_2
                · rw [if_pos c20] at H
                  have c20b0 : decide (0 ≤ x23_2) = true := decide_eq_true c20
                  clear c20
                  by_cases c21 : x23_2 < (t302.length : Int)
                  · rw [if_pos c21] at H
                    have c21b0 : decide (x23_2 < (t302.length : Int)) = true := decide_eq_true c21
                    clear c21
                    have HC22 := Aside0.mk H
                    clear H
                    have p305 : 0 ≤ (x23_2 : Int) := of_decide_eq_true (by first | (with_reducible assumption) | assumption)
                    have q305 : x23_2 < (t302.length : Int) := of_decide_eq_true (by first | (with_reducible assumption) | assumption)
                    obtain ⟨ad305, e305, hx305_0, hx305_1, hx305_2⟩ := at_T58 (Kd.R_reads' HO_21.out).2.2 x23_2 p305 q305
                    cases e305
                    replace p305 := eq_true p305
                    replace q305 := eq_true q305
                    go_upto_region 11 with (first | ((with_reducible refine gate_dst (N := 7) rfl ?_); refine box_event ?hg (N := 7) ?hd (cs := #[.int .i64 0, .int .i64 0, .int .i64 0]) (t := 58) ?hr ?_; (case hd => rfl); (case hg => rfl); (case hr => first | (go_simp; done) | (go_simp; rfl)); intro gb306 hg w23 hbox hb; have n0_ := Aside0.mk (Kd.R_below (Kd.R_elderB (by (with_reducible repeat (first | apply Kd.R_alloc | apply Kd.R_drewN | apply Kd.R_drew)); exact HO_21.out) gb306 (Nat.le_of_eq hg.symm)) hb); have n1_ := Aside0.mk (blk_below (g := gb299) (o := .cells #[.int .i64 a0_0, .int .i64 a0_1, .int .i64 a0_2, .int .i64 a0_3] 32 (0, 0)) (by (with_reducible repeat (first | refine blk_drewN ?_ _ | refine blk_drew ?_ | refine blk_alloc ?_ _)); exact BK299.out) hb); have n2_ := Aside0.mk (below_step (by repeat (first | (with_reducible first | exact HB.out | apply below_alloc | apply pw_below_drewN | apply below_drew1 | refine below_set ?_ GE299.out) | exact HB.out)) hb); have n3_ := Aside0.mk (hbox); have n4_ := Aside0.mk ((by rw [hg]; exact (below_size (by repeat (first | (with_reducible first | exact HB.out | apply below_alloc | apply pw_below_drewN | apply below_drew1 | refine below_set ?_ GE299.out) | exact HB.out))) : w.heap.size ≤ gb306)); have n5_ := Aside0.mk ((by rw [hg]; exact (below_size (by repeat (first | (with_reducible first | exact HB.out | apply below_alloc | apply pw_below_drewN | apply below_drew1 | refine below_set ?_ GE299.out) | exact HB.out))) : w.heap.size ≤ gb306)); have n6_ := Aside0.mk ((by rw [hg]; exact Nat.ne_of_lt (blk_lt (g := gb299) (o := .cells #[.int .i64 a0_0, .int .i64 a0_1, .int .i64 a0_2, .int .i64 a0_3] 32 (0, 0)) (by (with_reducible repeat (first | refine blk_drewN ?_ _ | refine blk_drew ?_ | refine blk_alloc ?_ _)); exact BK299.out)) : gb299 ≠ gb306)); have n7_ := Aside0.mk ((by rw [hg]; exact Nat.ne_of_gt (blk_lt (g := gb299) (o := .cells #[.int .i64 a0_0, .int .i64 a0_1, .int .i64 a0_2, .int .i64 a0_3] 32 (0, 0)) (by (with_reducible repeat (first | refine blk_drewN ?_ _ | refine blk_drew ?_ | refine blk_alloc ?_ _)); exact BK299.out)) : gb306 ≠ gb299)); clear HO_21; clear BK299; clear HB; have HO_21 := n0_; have BK299 := n1_; have HB := n2_; have BK306 := n3_; have GW306 := n4_; have GE306 := n5_; have NB299_306 := n6_; have NB306_299 := n7_; clear n0_ n1_ n2_ n3_ n4_ n5_ n6_ n7_; clear hb hbox hg; have hnb24 := NB306_299.out; have hnc24 := NB299_306.out; have hcz25_0 : w23.cell? ⟨gb306, 0, none⟩ = some (.int .i64 0) := (blk_cell BK306.out 0).trans rfl; have hcz25_1 : w23.cell? ⟨gb306, 1, none⟩ = some (.int .i64 0) := (blk_cell BK306.out 1).trans rfl; have hcz25_2 : w23.cell? ⟨gb306, 2, none⟩ = some (.int .i64 0) := (blk_cell BK306.out 2).trans rfl; have hfz25_0 := blk_frozen BK306.out 0; have hfz25_1 := blk_frozen BK306.out 1; have hfz25_2 := blk_frozen BK306.out 2) | ((with_reducible refine gate_dst (N := 8) rfl ?_); refine box_event ?hg (N := 8) ?hd (cs := #[.int .i64 0, .int .i64 0]) (t := 56) ?hr ?_; (case hd => rfl); (case hg => rfl); (case hr => first | (go_simp; done) | (go_simp; rfl)); intro gb307 hg w26 hbox hb; have n0_ := Aside0.mk (Kd.R_below (by (with_reducible repeat (first | apply Kd.R_alloc | apply Kd.R_drewN | apply Kd.R_drew)); exact (Kd.R_mono (Kd.R_far (p := ⟨gb306, 2, none⟩) (Kd.R_far (p := ⟨gb306, 1, none⟩) (Kd.R_far (p := ⟨gb306, 0, none⟩) (Kd.R_mono HO_21.out (fun k_ hk => (⟨hk, hk.2⟩ : _ ∧ k_ ≠ gb306))) (fun _ hk => hk.2) (.int .i64 ((rd_T58 t302 x23_2).f0))) (fun _ hk => hk.2) (.int .i64 ((rd_T58 t302 x23_2).f1.f0))) (fun _ hk => hk.2) (.int .i64 ((rd_T58 t302 x23_2).f1.f1))) (fun _ h_ => h_.1))) hb); have n1_ := Aside0.mk (blk_below (g := gb299) (o := .cells #[.int .i64 a0_0, .int .i64 a0_1, .int .i64 a0_2, .int .i64 a0_3] 32 (0, 0)) (by (with_reducible repeat (first | refine blk_drewN ?_ _ | refine blk_drew ?_ | refine blk_alloc ?_ _)); refine blk_far ?_ NB299_306.out _; (with_reducible repeat (first | refine blk_drewN ?_ _ | refine blk_drew ?_ | refine blk_alloc ?_ _)); refine blk_far ?_ NB299_306.out _; (with_reducible repeat (first | refine blk_drewN ?_ _ | refine blk_drew ?_ | refine blk_alloc ?_ _)); refine blk_far ?_ NB299_306.out _; (with_reducible repeat (first | refine blk_drewN ?_ _ | refine blk_drew ?_ | refine blk_alloc ?_ _)); exact BK299.out) hb); have n2_ := Aside0.mk (blk_below (g := gb306) (o := .cells #[.int .i64 ((rd_T58 t302 x23_2).f0), .int .i64 ((rd_T58 t302 x23_2).f1.f0), .int .i64 ((rd_T58 t302 x23_2).f1.f1)] 58 (0, 0)) (by (with_reducible repeat (first | refine blk_drewN ?_ _ | refine blk_drew ?_ | refine blk_alloc ?_ _)); refine blk_put (cs := #[.int .i64 ((rd_T58 t302 x23_2).f0), .int .i64 ((rd_T58 t302 x23_2).f1.f0), .int .i64 0]) ?_ 2 _ rfl; (with_reducible repeat (first | refine blk_drewN ?_ _ | refine blk_drew ?_ | refine blk_alloc ?_ _)); refine blk_put (cs := #[.int .i64 ((rd_T58 t302 x23_2).f0), .int .i64 0, .int .i64 0]) ?_ 1 _ rfl; (with_reducible repeat (first | refine blk_drewN ?_ _ | refine blk_drew ?_ | refine blk_alloc ?_ _)); refine blk_put (cs := #[.int .i64 0, .int .i64 0, .int .i64 0]) ?_ 0 _ rfl; (with_reducible repeat (first | refine blk_drewN ?_ _ | refine blk_drew ?_ | refine blk_alloc ?_ _)); exact BK306.out) hb); have n3_ := Aside0.mk (below_step (by repeat (first | (with_reducible first | exact HB.out | apply below_alloc | apply pw_below_drewN | apply below_drew1 | refine below_set ?_ GE299.out | refine below_set ?_ GE306.out) | exact HB.out)) hb); have n4_ := Aside0.mk (hbox); have n5_ := Aside0.mk ((by rw [hg]; exact (below_size (by repeat (first | (with_reducible first | exact HB.out | apply below_alloc | apply pw_below_drewN | apply below_drew1 | refine below_set ?_ GE299.out | refine below_set ?_ GE306.out) | exact HB.out))) : w.heap.size ≤ gb307)); have n6_ := Aside0.mk ((by rw [hg]; exact (below_size (by repeat (first | (with_reducible first | exact HB.out | apply below_alloc | apply pw_below_drewN | apply below_drew1 | refine below_set ?_ GE299.out | refine below_set ?_ GE306.out) | exact HB.out))) : w.heap.size ≤ gb307)); have n7_ := Aside0.mk ((by rw [hg]; exact Nat.ne_of_lt (blk_lt (g := gb299) (o := .cells #[.int .i64 a0_0, .int .i64 a0_1, .int .i64 a0_2, .int .i64 a0_3] 32 (0, 0)) (by (with_reducible repeat (first | refine blk_drewN ?_ _ | refine blk_drew ?_ | refine blk_alloc ?_ _)); refine blk_far ?_ NB299_306.out _; (with_reducible repeat (first | refine blk_drewN ?_ _ | refine blk_drew ?_ | refine blk_alloc ?_ _)); refine blk_far ?_ NB299_306.out _; (with_reducible repeat (first | refine blk_drewN ?_ _ | refine blk_drew ?_ | refine blk_alloc ?_ _)); refine blk_far ?_ NB299_306.out _; (with_reducible repeat (first | refine blk_drewN ?_ _ | refine blk_drew ?_ | refine blk_alloc ?_ _)); exact BK299.out)) : gb299 ≠ gb307)); have n8_ := Aside0.mk ((by rw [hg]; exact Nat.ne_of_gt (blk_lt (g := gb299) (o := .cells #[.int .i64 a0_0, .int .i64 a0_1, .int .i64 a0_2, .int .i64 a0_3] 32 (0, 0)) (by (with_reducible repeat (first | refine blk_drewN ?_ _ | refine blk_drew ?_ | refine blk_alloc ?_ _)); refine blk_far ?_ NB299_306.out _; (with_reducible repeat (first | refine blk_drewN ?_ _ | refine blk_drew ?_ | refine blk_alloc ?_ _)); refine blk_far ?_ NB299_306.out _; (with_reducible repeat (first | refine blk_drewN ?_ _ | refine blk_drew ?_ | refine blk_alloc ?_ _)); refine blk_far ?_ NB299_306.out _; (with_reducible repeat (first | refine blk_drewN ?_ _ | refine blk_drew ?_ | refine blk_alloc ?_ _)); exact BK299.out)) : gb307 ≠ gb299)); have n9_ := Aside0.mk ((by rw [hg]; exact Nat.ne_of_lt (blk_lt (g := gb306) (o := .cells #[.int .i64 ((rd_T58 t302 x23_2).f0), .int .i64 ((rd_T58 t302 x23_2).f1.f0), .int .i64 ((rd_T58 t302 x23_2).f1.f1)] 58 (0, 0)) (by (with_reducible repeat (first | refine blk_drewN ?_ _ | refine blk_drew ?_ | refine blk_alloc ?_ _)); refine blk_put (cs := #[.int .i64 ((rd_T58 t302 x23_2).f0), .int .i64 ((rd_T58 t302 x23_2).f1.f0), .int .i64 0]) ?_ 2 _ rfl; (with_reducible repeat (first | refine blk_drewN ?_ _ | refine blk_drew ?_ | refine blk_alloc ?_ _)); refine blk_put (cs := #[.int .i64 ((rd_T58 t302 x23_2).f0), .int .i64 0, .int .i64 0]) ?_ 1 _ rfl; (with_reducible repeat (first | refine blk_drewN ?_ _ | refine blk_drew ?_ | refine blk_alloc ?_ _)); refine blk_put (cs := #[.int .i64 0, .int .i64 0, .int .i64 0]) ?_ 0 _ rfl; (with_reducible repeat (first | refine blk_drewN ?_ _ | refine blk_drew ?_ | refine blk_alloc ?_ _)); exact BK306.out)) : gb306 ≠ gb307)); have n10_ := Aside0.mk ((by rw [hg]; exact Nat.ne_of_gt (blk_lt (g := gb306) (o := .cells #[.int .i64 ((rd_T58 t302 x23_2).f0), .int .i64 ((rd_T58 t302 x23_2).f1.f0), .int .i64 ((rd_T58 t302 x23_2).f1.f1)] 58 (0, 0)) (by (with_reducible repeat (first | refine blk_drewN ?_ _ | refine blk_drew ?_ | refine blk_alloc ?_ _)); refine blk_put (cs := #[.int .i64 ((rd_T58 t302 x23_2).f0), .int .i64 ((rd_T58 t302 x23_2).f1.f0), .int .i64 0]) ?_ 2 _ rfl; (with_reducible repeat (first | refine blk_drewN ?_ _ | refine blk_drew ?_ | refine blk_alloc ?_ _)); refine blk_put (cs := #[.int .i64 ((rd_T58 t302 x23_2).f0), .int .i64 0, .int .i64 0]) ?_ 1 _ rfl; (with_reducible repeat (first | refine blk_drewN ?_ _ | refine blk_drew ?_ | refine blk_alloc ?_ _)); refine blk_put (cs := #[.int .i64 0, .int .i64 0, .int .i64 0]) ?_ 0 _ rfl; (with_reducible repeat (first | refine blk_drewN ?_ _ | refine blk_drew ?_ | refine blk_alloc ?_ _)); exact BK306.out)) : gb307 ≠ gb306)); clear HO_21; clear BK299; clear BK306; clear HB; have HO_21 := n0_; have BK299 := n1_; have BK306 := n2_; have HB := n3_; have BK307 := n4_; have GW307 := n5_; have GE307 := n6_; have NB299_307 := n7_; have NB307_299 := n8_; have NB306_307 := n9_; have NB307_306 := n10_; clear n0_ n1_ n2_ n3_ n4_ n5_ n6_ n7_ n8_ n9_ n10_; clear hb hbox hg; have hnb27 := NB307_299.out; have hnc27 := NB299_307.out; have hnb28 := NB307_306.out; have hnc28 := NB306_307.out; have hcz29_0 : w26.cell? ⟨gb307, 0, none⟩ = some (.int .i64 0) := (blk_cell BK307.out 0).trans rfl; have hcz29_1 : w26.cell? ⟨gb307, 1, none⟩ = some (.int .i64 0) := (blk_cell BK307.out 1).trans rfl; have hfz29_0 := blk_frozen BK307.out 0; have hfz29_1 := blk_frozen BK307.out 1))
                    (try simp only [Act.put, List.setIfInBounds_toArray, List.set_cons_zero, List.set_cons_succ])
                    go_cut [83] (fun v83 wc => ∃ (kq : Nat) (x83_21 : Bool), v83 = .bool x83_21 ∧ Aside0 (pointillistlaw16_CellSums.j2 kq a1 (wrap64 (x5_2 + ((rd_T58 t302 x23_2).f1.f0))) t302 (t302.length : Int) x23_2 x83_21 a0_0 a0_1 a0_2 a0_3 ((rd_T58 t302 x23_2).f1.f0) ((rd_T58 t302 x23_2).f1.f1) = some r) ∧ Aside0 (kq ≤ k2) ∧ Aside0 (Kd.R k58 58 wc w.heap.size (fun k_ => k_ ≠ gb306) (.slice (some ad305) t302.length co18) t302) ∧ Aside0 (wc.heap[gb299]? = some (.cells #[.int .i64 a0_0, .int .i64 a0_1, .int .i64 a0_2, .int .i64 a0_3] 32 (0, 0))) ∧ Aside0 (wc.heap[gb306]? = some (.cells #[.int .i64 ((rd_T58 t302 x23_2).f0), .int .i64 ((rd_T58 t302 x23_2).f1.f0), .int .i64 ((rd_T58 t302 x23_2).f1.f1)] 58 (0, 0))) ∧ Aside0 (wc.heap[gb307]? = some (.cells #[.int .i64 ((rd_T58 t302 x23_2).f1.f0), .int .i64 ((rd_T58 t302 x23_2).f1.f1)] 56 (0, 0))) ∧ Aside0 (Below w.heap.size w wc))
                    case first =>
                      have H := HC22.out
                      clear HC22
                      by_cases c30 : ((rd_T58 t302 x23_2).f1.f0) > 0
                      · rw [if_pos c30] at H
                        have c30b0 : decide (0 < ((rd_T58 t302 x23_2).f1.f0)) = true := decide_eq_true c30
                        clear c30
                        (first | rw [c30b0] | (simp only [i64_w, i32_w]; rw [c30b0]) | skip)
                        by_cases c31 : ((rd_T58 t302 x23_2).f1.f1) < 0
                        · rw [if_pos c31] at H
                          have c31b0 : decide (((rd_T58 t302 x23_2).f1.f1) < 0) = true := decide_eq_true c31
                          clear c31
                          have H' := Aside0.mk H
                          clear H
                          have hnb32 := NB307_299.out
                          have hnc32 := NB299_307.out
                          have hnb33 := NB307_306.out
                          have hnc33 := NB306_307.out
                          have hcz34_0 : w26.cell? ⟨gb307, 0, none⟩ = some (.int .i64 0) := (blk_cell BK307.out 0).trans rfl
                          have hcz34_1 : w26.cell? ⟨gb307, 1, none⟩ = some (.int .i64 0) := (blk_cell BK307.out 1).trans rfl
                          have hfz34_0 := blk_frozen BK307.out 0
                          have hfz34_1 := blk_frozen BK307.out 1
                          go_wp2
                          go_meet
                          case rel => exact ⟨_, (true), (by first | rfl | (simp; done) | (simp [*]; done)), H', ⟨by have := HJ4.out; have := HK2.out; first | omega | exact Nat.le_refl _⟩, ⟨by (with_reducible repeat (first | apply Kd.R_alloc | apply Kd.R_drewN | apply Kd.R_drew)); exact Kd.R_mono (Kd.R_far (p := ⟨gb307, 1, none⟩) (Kd.R_far (p := ⟨gb307, 0, none⟩) (Kd.R_types HO_21.out BK307.out (by decide)) (fun _ hk => hk.2) (.int .i64 ((rd_T58 t302 x23_2).f1.f0))) (fun _ hk => hk.2) (.int .i64 ((rd_T58 t302 x23_2).f1.f1))) (fun _ hk => hk.1.2)⟩, ⟨by (with_reducible repeat (first | refine blk_drewN ?_ _ | refine blk_drew ?_ | refine blk_alloc ?_ _)); refine blk_far ?_ NB299_307.out _; (with_reducible repeat (first | refine blk_drewN ?_ _ | refine blk_drew ?_ | refine blk_alloc ?_ _)); refine blk_far ?_ NB299_307.out _; (with_reducible repeat (first | refine blk_drewN ?_ _ | refine blk_drew ?_ | refine blk_alloc ?_ _)); exact BK299.out⟩, ⟨by (with_reducible repeat (first | refine blk_drewN ?_ _ | refine blk_drew ?_ | refine blk_alloc ?_ _)); refine blk_far ?_ NB306_307.out _; (with_reducible repeat (first | refine blk_drewN ?_ _ | refine blk_drew ?_ | refine blk_alloc ?_ _)); refine blk_far ?_ NB306_307.out _; (with_reducible repeat (first | refine blk_drewN ?_ _ | refine blk_drew ?_ | refine blk_alloc ?_ _)); exact BK306.out⟩, ⟨by (with_reducible repeat (first | refine blk_drewN ?_ _ | refine blk_drew ?_ | refine blk_alloc ?_ _)); refine blk_put (cs := #[.int .i64 ((rd_T58 t302 x23_2).f1.f0), .int .i64 0]) ?_ 1 _ rfl; (with_reducible repeat (first | refine blk_drewN ?_ _ | refine blk_drew ?_ | refine blk_alloc ?_ _)); refine blk_put (cs := #[.int .i64 0, .int .i64 0]) ?_ 0 _ rfl; (with_reducible repeat (first | refine blk_drewN ?_ _ | refine blk_drew ?_ | refine blk_alloc ?_ _)); exact BK307.out⟩, ⟨by repeat (first | (with_reducible first | exact HB.out | apply below_alloc | apply pw_below_drewN | apply below_drew1 | refine below_set ?_ GE299.out | refine below_set ?_ GE306.out | refine below_set ?_ GE307.out) | exact HB.out)⟩⟩
                        · rw [if_neg c31] at H
                          have c31b0 : decide (((rd_T58 t302 x23_2).f1.f1) < 0) = false := decide_eq_false c31
                          clear c31
                          by_cases c35 : ((rd_T58 t302 x23_2).f1.f1) > (wrap64 (((rd_T58 t302 x23_2).f1.f0) * 131072))
                          · rw [if_pos c35] at H
                            have c35b0 : decide ((wrap64 (((rd_T58 t302 x23_2).f1.f0) * 131072)) < ((rd_T58 t302 x23_2).f1.f1)) = true := decide_eq_true c35
                            clear c35
                            have H' := Aside0.mk H
                            clear H
                            have hnb36 := NB307_299.out
                            have hnc36 := NB299_307.out
                            have hnb37 := NB307_306.out
                            have hnc37 := NB306_307.out
                            have hcz38_0 : w26.cell? ⟨gb307, 0, none⟩ = some (.int .i64 0) := (blk_cell BK307.out 0).trans rfl
                            have hcz38_1 : w26.cell? ⟨gb307, 1, none⟩ = some (.int .i64 0) := (blk_cell BK307.out 1).trans rfl
                            have hfz38_0 := blk_frozen BK307.out 0
                            have hfz38_1 := blk_frozen BK307.out 1
                            go_wp2
                            go_meet
                            case rel => exact ⟨_, (true), (by first | rfl | (simp; done) | (simp [*]; done)), H', ⟨by have := HJ4.out; have := HK2.out; first | omega | exact Nat.le_refl _⟩, ⟨by (with_reducible repeat (first | apply Kd.R_alloc | apply Kd.R_drewN | apply Kd.R_drew)); exact Kd.R_mono (Kd.R_far (p := ⟨gb307, 1, none⟩) (Kd.R_far (p := ⟨gb307, 0, none⟩) (Kd.R_types HO_21.out BK307.out (by decide)) (fun _ hk => hk.2) (.int .i64 ((rd_T58 t302 x23_2).f1.f0))) (fun _ hk => hk.2) (.int .i64 ((rd_T58 t302 x23_2).f1.f1))) (fun _ hk => hk.1.2)⟩, ⟨by (with_reducible repeat (first | refine blk_drewN ?_ _ | refine blk_drew ?_ | refine blk_alloc ?_ _)); refine blk_far ?_ NB299_307.out _; (with_reducible repeat (first | refine blk_drewN ?_ _ | refine blk_drew ?_ | refine blk_alloc ?_ _)); refine blk_far ?_ NB299_307.out _; (with_reducible repeat (first | refine blk_drewN ?_ _ | refine blk_drew ?_ | refine blk_alloc ?_ _)); exact BK299.out⟩, ⟨by (with_reducible repeat (first | refine blk_drewN ?_ _ | refine blk_drew ?_ | refine blk_alloc ?_ _)); refine blk_far ?_ NB306_307.out _; (with_reducible repeat (first | refine blk_drewN ?_ _ | refine blk_drew ?_ | refine blk_alloc ?_ _)); refine blk_far ?_ NB306_307.out _; (with_reducible repeat (first | refine blk_drewN ?_ _ | refine blk_drew ?_ | refine blk_alloc ?_ _)); exact BK306.out⟩, ⟨by (with_reducible repeat (first | refine blk_drewN ?_ _ | refine blk_drew ?_ | refine blk_alloc ?_ _)); refine blk_put (cs := #[.int .i64 ((rd_T58 t302 x23_2).f1.f0), .int .i64 0]) ?_ 1 _ rfl; (with_reducible repeat (first | refine blk_drewN ?_ _ | refine blk_drew ?_ | refine blk_alloc ?_ _)); refine blk_put (cs := #[.int .i64 0, .int .i64 0]) ?_ 0 _ rfl; (with_reducible repeat (first | refine blk_drewN ?_ _ | refine blk_drew ?_ | refine blk_alloc ?_ _)); exact BK307.out⟩, ⟨by repeat (first | (with_reducible first | exact HB.out | apply below_alloc | apply pw_below_drewN | apply below_drew1 | refine below_set ?_ GE299.out | refine below_set ?_ GE306.out | refine below_set ?_ GE307.out) | exact HB.out)⟩⟩
                          · rw [if_neg c35] at H
                            have c35b0 : decide ((wrap64 (((rd_T58 t302 x23_2).f1.f0) * 131072)) < ((rd_T58 t302 x23_2).f1.f1)) = false := decide_eq_false c35
                            clear c35
                            by_cases c39 : ((rd_T58 t302 x23_2).f1.f0) < 0
                            · rw [if_pos c39] at H
                              have c39b0 : decide (((rd_T58 t302 x23_2).f1.f0) < 0) = true := decide_eq_true c39
                              clear c39
                              by_cases c40 : ((rd_T58 t302 x23_2).f1.f1) > 0
                              · rw [if_pos c40] at H
                                have c40b0 : decide (0 < ((rd_T58 t302 x23_2).f1.f1)) = true := decide_eq_true c40
                                clear c40
                                have H' := Aside0.mk H
                                clear H
                                have hnb41 := NB307_299.out
                                have hnc41 := NB299_307.out
                                have hnb42 := NB307_306.out
                                have hnc42 := NB306_307.out
                                have hcz43_0 : w26.cell? ⟨gb307, 0, none⟩ = some (.int .i64 0) := (blk_cell BK307.out 0).trans rfl
                                have hcz43_1 : w26.cell? ⟨gb307, 1, none⟩ = some (.int .i64 0) := (blk_cell BK307.out 1).trans rfl
                                have hfz43_0 := blk_frozen BK307.out 0
                                have hfz43_1 := blk_frozen BK307.out 1
                                go_wp2
                                go_meet
                                case rel => exact ⟨_, (true), (by first | rfl | (simp; done) | (simp [*]; done)), H', ⟨by have := HJ4.out; have := HK2.out; first | omega | exact Nat.le_refl _⟩, ⟨by (with_reducible repeat (first | apply Kd.R_alloc | apply Kd.R_drewN | apply Kd.R_drew)); exact Kd.R_mono (Kd.R_far (p := ⟨gb307, 1, none⟩) (Kd.R_far (p := ⟨gb307, 0, none⟩) (Kd.R_types HO_21.out BK307.out (by decide)) (fun _ hk => hk.2) (.int .i64 ((rd_T58 t302 x23_2).f1.f0))) (fun _ hk => hk.2) (.int .i64 ((rd_T58 t302 x23_2).f1.f1))) (fun _ hk => hk.1.2)⟩, ⟨by (with_reducible repeat (first | refine blk_drewN ?_ _ | refine blk_drew ?_ | refine blk_alloc ?_ _)); refine blk_far ?_ NB299_307.out _; (with_reducible repeat (first | refine blk_drewN ?_ _ | refine blk_drew ?_ | refine blk_alloc ?_ _)); refine blk_far ?_ NB299_307.out _; (with_reducible repeat (first | refine blk_drewN ?_ _ | refine blk_drew ?_ | refine blk_alloc ?_ _)); exact BK299.out⟩, ⟨by (with_reducible repeat (first | refine blk_drewN ?_ _ | refine blk_drew ?_ | refine blk_alloc ?_ _)); refine blk_far ?_ NB306_307.out _; (with_reducible repeat (first | refine blk_drewN ?_ _ | refine blk_drew ?_ | refine blk_alloc ?_ _)); refine blk_far ?_ NB306_307.out _; (with_reducible repeat (first | refine blk_drewN ?_ _ | refine blk_drew ?_ | refine blk_alloc ?_ _)); exact BK306.out⟩, ⟨by (with_reducible repeat (first | refine blk_drewN ?_ _ | refine blk_drew ?_ | refine blk_alloc ?_ _)); refine blk_put (cs := #[.int .i64 ((rd_T58 t302 x23_2).f1.f0), .int .i64 0]) ?_ 1 _ rfl; (with_reducible repeat (first | refine blk_drewN ?_ _ | refine blk_drew ?_ | refine blk_alloc ?_ _)); refine blk_put (cs := #[.int .i64 0, .int .i64 0]) ?_ 0 _ rfl; (with_reducible repeat (first | refine blk_drewN ?_ _ | refine blk_drew ?_ | refine blk_alloc ?_ _)); exact BK307.out⟩, ⟨by repeat (first | (with_reducible first | exact HB.out | apply below_alloc | apply pw_below_drewN | apply below_drew1 | refine below_set ?_ GE299.out | refine below_set ?_ GE306.out | refine below_set ?_ GE307.out) | exact HB.out)⟩⟩
                              · rw [if_neg c40] at H
                                have c40b0 : decide (0 < ((rd_T58 t302 x23_2).f1.f1)) = false := decide_eq_false c40
                                clear c40
                                by_cases c44 : ((rd_T58 t302 x23_2).f1.f1) < (wrap64 (((rd_T58 t302 x23_2).f1.f0) * 131072))
                                · rw [if_pos c44] at H
                                  have c44b0 : decide (((rd_T58 t302 x23_2).f1.f1) < (wrap64 (((rd_T58 t302 x23_2).f1.f0) * 131072))) = true := decide_eq_true c44
                                  clear c44
                                  have H' := Aside0.mk H
                                  clear H
                                  have hnb45 := NB307_299.out
                                  have hnc45 := NB299_307.out
                                  have hnb46 := NB307_306.out
                                  have hnc46 := NB306_307.out
                                  have hcz47_0 : w26.cell? ⟨gb307, 0, none⟩ = some (.int .i64 0) := (blk_cell BK307.out 0).trans rfl
                                  have hcz47_1 : w26.cell? ⟨gb307, 1, none⟩ = some (.int .i64 0) := (blk_cell BK307.out 1).trans rfl
                                  have hfz47_0 := blk_frozen BK307.out 0
                                  have hfz47_1 := blk_frozen BK307.out 1
                                  go_wp2
                                  go_meet
                                  case rel => exact ⟨_, (true), (by first | rfl | (simp; done) | (simp [*]; done)), H', ⟨by have := HJ4.out; have := HK2.out; first | omega | exact Nat.le_refl _⟩, ⟨by (with_reducible repeat (first | apply Kd.R_alloc | apply Kd.R_drewN | apply Kd.R_drew)); exact Kd.R_mono (Kd.R_far (p := ⟨gb307, 1, none⟩) (Kd.R_far (p := ⟨gb307, 0, none⟩) (Kd.R_types HO_21.out BK307.out (by decide)) (fun _ hk => hk.2) (.int .i64 ((rd_T58 t302 x23_2).f1.f0))) (fun _ hk => hk.2) (.int .i64 ((rd_T58 t302 x23_2).f1.f1))) (fun _ hk => hk.1.2)⟩, ⟨by (with_reducible repeat (first | refine blk_drewN ?_ _ | refine blk_drew ?_ | refine blk_alloc ?_ _)); refine blk_far ?_ NB299_307.out _; (with_reducible repeat (first | refine blk_drewN ?_ _ | refine blk_drew ?_ | refine blk_alloc ?_ _)); refine blk_far ?_ NB299_307.out _; (with_reducible repeat (first | refine blk_drewN ?_ _ | refine blk_drew ?_ | refine blk_alloc ?_ _)); exact BK299.out⟩, ⟨by (with_reducible repeat (first | refine blk_drewN ?_ _ | refine blk_drew ?_ | refine blk_alloc ?_ _)); refine blk_far ?_ NB306_307.out _; (with_reducible repeat (first | refine blk_drewN ?_ _ | refine blk_drew ?_ | refine blk_alloc ?_ _)); refine blk_far ?_ NB306_307.out _; (with_reducible repeat (first | refine blk_drewN ?_ _ | refine blk_drew ?_ | refine blk_alloc ?_ _)); exact BK306.out⟩, ⟨by (with_reducible repeat (first | refine blk_drewN ?_ _ | refine blk_drew ?_ | refine blk_alloc ?_ _)); refine blk_put (cs := #[.int .i64 ((rd_T58 t302 x23_2).f1.f0), .int .i64 0]) ?_ 1 _ rfl; (with_reducible repeat (first | refine blk_drewN ?_ _ | refine blk_drew ?_ | refine blk_alloc ?_ _)); refine blk_put (cs := #[.int .i64 0, .int .i64 0]) ?_ 0 _ rfl; (with_reducible repeat (first | refine blk_drewN ?_ _ | refine blk_drew ?_ | refine blk_alloc ?_ _)); exact BK307.out⟩, ⟨by repeat (first | (with_reducible first | exact HB.out | apply below_alloc | apply pw_below_drewN | apply below_drew1 | refine below_set ?_ GE299.out | refine below_set ?_ GE306.out | refine below_set ?_ GE307.out) | exact HB.out)⟩⟩
                                · rw [if_neg c44] at H
                                  have c44b0 : decide (((rd_T58 t302 x23_2).f1.f1) < (wrap64 (((rd_T58 t302 x23_2).f1.f0) * 131072))) = false := decide_eq_false c44
                                  clear c44
                                  by_cases c48 : ((rd_T58 t302 x23_2).f1.f0) = 0
                                  · rw [if_pos c48] at H
                                    have c48b0 : (((rd_T58 t302 x23_2).f1.f0) == 0) = true := beq_iff_eq.mpr c48
                                    have c48b1 : (((rd_T58 t302 x23_2).f1.f0) != 0) = false := bne_eq_false_iff_eq.mpr c48
                                    clear c48
                                    have H' := Aside0.mk H
                                    clear H
                                    have hnb49 := NB307_299.out
                                    have hnc49 := NB299_307.out
                                    have hnb50 := NB307_306.out
                                    have hnc50 := NB306_307.out
                                    have hcz51_0 : w26.cell? ⟨gb307, 0, none⟩ = some (.int .i64 0) := (blk_cell BK307.out 0).trans rfl
                                    have hcz51_1 : w26.cell? ⟨gb307, 1, none⟩ = some (.int .i64 0) := (blk_cell BK307.out 1).trans rfl
                                    have hfz51_0 := blk_frozen BK307.out 0
                                    have hfz51_1 := blk_frozen BK307.out 1
                                    go_wp2
                                    go_meet
                                    case rel => exact ⟨_, (true), (by first | rfl | (simp; done) | (simp [*]; done)), H', ⟨by have := HJ4.out; have := HK2.out; first | omega | exact Nat.le_refl _⟩, ⟨by (with_reducible repeat (first | apply Kd.R_alloc | apply Kd.R_drewN | apply Kd.R_drew)); exact Kd.R_mono (Kd.R_far (p := ⟨gb307, 1, none⟩) (Kd.R_far (p := ⟨gb307, 0, none⟩) (Kd.R_types HO_21.out BK307.out (by decide)) (fun _ hk => hk.2) (.int .i64 ((rd_T58 t302 x23_2).f1.f0))) (fun _ hk => hk.2) (.int .i64 ((rd_T58 t302 x23_2).f1.f1))) (fun _ hk => hk.1.2)⟩, ⟨by (with_reducible repeat (first | refine blk_drewN ?_ _ | refine blk_drew ?_ | refine blk_alloc ?_ _)); refine blk_far ?_ NB299_307.out _; (with_reducible repeat (first | refine blk_drewN ?_ _ | refine blk_drew ?_ | refine blk_alloc ?_ _)); refine blk_far ?_ NB299_307.out _; (with_reducible repeat (first | refine blk_drewN ?_ _ | refine blk_drew ?_ | refine blk_alloc ?_ _)); exact BK299.out⟩, ⟨by (with_reducible repeat (first | refine blk_drewN ?_ _ | refine blk_drew ?_ | refine blk_alloc ?_ _)); refine blk_far ?_ NB306_307.out _; (with_reducible repeat (first | refine blk_drewN ?_ _ | refine blk_drew ?_ | refine blk_alloc ?_ _)); refine blk_far ?_ NB306_307.out _; (with_reducible repeat (first | refine blk_drewN ?_ _ | refine blk_drew ?_ | refine blk_alloc ?_ _)); exact BK306.out⟩, ⟨by (with_reducible repeat (first | refine blk_drewN ?_ _ | refine blk_drew ?_ | refine blk_alloc ?_ _)); refine blk_put (cs := #[.int .i64 ((rd_T58 t302 x23_2).f1.f0), .int .i64 0]) ?_ 1 _ rfl; (with_reducible repeat (first | refine blk_drewN ?_ _ | refine blk_drew ?_ | refine blk_alloc ?_ _)); refine blk_put (cs := #[.int .i64 0, .int .i64 0]) ?_ 0 _ rfl; (with_reducible repeat (first | refine blk_drewN ?_ _ | refine blk_drew ?_ | refine blk_alloc ?_ _)); exact BK307.out⟩, ⟨by repeat (first | (with_reducible first | exact HB.out | apply below_alloc | apply pw_below_drewN | apply below_drew1 | refine below_set ?_ GE299.out | refine below_set ?_ GE306.out | refine below_set ?_ GE307.out) | exact HB.out)⟩⟩
                                  · rw [if_neg c48] at H
                                    have c48b0 : (((rd_T58 t302 x23_2).f1.f0) == 0) = false := beq_eq_false_iff_ne.mpr c48
                                    have c48b1 : (((rd_T58 t302 x23_2).f1.f0) != 0) = true := bne_iff_ne.mpr c48
                                    by_cases c52 : ((rd_T58 t302 x23_2).f0) < 0
                                    · rw [if_pos c52] at H
                                      have c52b0 : decide (((rd_T58 t302 x23_2).f0) < 0) = true := decide_eq_true c52
                                      clear c52
                                      have H' := Aside0.mk H
                                      clear H
                                      have hnb53 := NB307_299.out
                                      have hnc53 := NB299_307.out
                                      have hnb54 := NB307_306.out
                                      have hnc54 := NB306_307.out
                                      have hcz55_0 : w26.cell? ⟨gb307, 0, none⟩ = some (.int .i64 0) := (blk_cell BK307.out 0).trans rfl
                                      have hcz55_1 : w26.cell? ⟨gb307, 1, none⟩ = some (.int .i64 0) := (blk_cell BK307.out 1).trans rfl
                                      have hfz55_0 := blk_frozen BK307.out 0
                                      have hfz55_1 := blk_frozen BK307.out 1
                                      have hnb56 := NB306_299.out
                                      have hnc56 := NB299_306.out
                                      have hcz57_0 : w26.cell? ⟨gb306, 0, none⟩ = some (.int .i64 ((rd_T58 t302 x23_2).f0)) := (blk_cell BK306.out 0).trans rfl
                                      have hcz57_1 : w26.cell? ⟨gb306, 1, none⟩ = some (.int .i64 ((rd_T58 t302 x23_2).f1.f0)) := (blk_cell BK306.out 1).trans rfl
                                      have hcz57_2 : w26.cell? ⟨gb306, 2, none⟩ = some (.int .i64 ((rd_T58 t302 x23_2).f1.f1)) := (blk_cell BK306.out 2).trans rfl
                                      have hfz57_0 := blk_frozen BK306.out 0
                                      have hfz57_1 := blk_frozen BK306.out 1
                                      have hfz57_2 := blk_frozen BK306.out 2
                                      go_wp2
                                      go_meet
                                      case rel => exact ⟨_, (true), (by first | rfl | (simp; done) | (simp [*]; done)), H', ⟨by have := HJ4.out; have := HK2.out; first | omega | exact Nat.le_refl _⟩, ⟨by (with_reducible repeat (first | apply Kd.R_alloc | apply Kd.R_drewN | apply Kd.R_drew)); exact Kd.R_mono (Kd.R_far (p := ⟨gb307, 1, none⟩) (Kd.R_far (p := ⟨gb307, 0, none⟩) (Kd.R_types HO_21.out BK307.out (by decide)) (fun _ hk => hk.2) (.int .i64 ((rd_T58 t302 x23_2).f1.f0))) (fun _ hk => hk.2) (.int .i64 ((rd_T58 t302 x23_2).f1.f1))) (fun _ hk => hk.1.2)⟩, ⟨by (with_reducible repeat (first | refine blk_drewN ?_ _ | refine blk_drew ?_ | refine blk_alloc ?_ _)); refine blk_far ?_ NB299_307.out _; (with_reducible repeat (first | refine blk_drewN ?_ _ | refine blk_drew ?_ | refine blk_alloc ?_ _)); refine blk_far ?_ NB299_307.out _; (with_reducible repeat (first | refine blk_drewN ?_ _ | refine blk_drew ?_ | refine blk_alloc ?_ _)); exact BK299.out⟩, ⟨by (with_reducible repeat (first | refine blk_drewN ?_ _ | refine blk_drew ?_ | refine blk_alloc ?_ _)); refine blk_far ?_ NB306_307.out _; (with_reducible repeat (first | refine blk_drewN ?_ _ | refine blk_drew ?_ | refine blk_alloc ?_ _)); refine blk_far ?_ NB306_307.out _; (with_reducible repeat (first | refine blk_drewN ?_ _ | refine blk_drew ?_ | refine blk_alloc ?_ _)); exact BK306.out⟩, ⟨by (with_reducible repeat (first | refine blk_drewN ?_ _ | refine blk_drew ?_ | refine blk_alloc ?_ _)); refine blk_put (cs := #[.int .i64 ((rd_T58 t302 x23_2).f1.f0), .int .i64 0]) ?_ 1 _ rfl; (with_reducible repeat (first | refine blk_drewN ?_ _ | refine blk_drew ?_ | refine blk_alloc ?_ _)); refine blk_put (cs := #[.int .i64 0, .int .i64 0]) ?_ 0 _ rfl; (with_reducible repeat (first | refine blk_drewN ?_ _ | refine blk_drew ?_ | refine blk_alloc ?_ _)); exact BK307.out⟩, ⟨by repeat (first | (with_reducible first | exact HB.out | apply below_alloc | apply pw_below_drewN | apply below_drew1 | refine below_set ?_ GE299.out | refine below_set ?_ GE306.out | refine below_set ?_ GE307.out) | exact HB.out)⟩⟩
                                    · rw [if_neg c52] at H
                                      have c52b0 : decide (((rd_T58 t302 x23_2).f0) < 0) = false := decide_eq_false c52
                                      clear c52
                                      have H' := Aside0.mk H
                                      clear H
                                      have hnb58 := NB307_299.out
                                      have hnc58 := NB299_307.out
                                      have hnb59 := NB307_306.out
                                      have hnc59 := NB306_307.out
                                      have hcz60_0 : w26.cell? ⟨gb307, 0, none⟩ = some (.int .i64 0) := (blk_cell BK307.out 0).trans rfl
                                      have hcz60_1 : w26.cell? ⟨gb307, 1, none⟩ = some (.int .i64 0) := (blk_cell BK307.out 1).trans rfl
                                      have hfz60_0 := blk_frozen BK307.out 0
                                      have hfz60_1 := blk_frozen BK307.out 1
                                      have hnb61 := NB306_299.out
                                      have hnc61 := NB299_306.out
                                      have hcz62_0 : w26.cell? ⟨gb306, 0, none⟩ = some (.int .i64 ((rd_T58 t302 x23_2).f0)) := (blk_cell BK306.out 0).trans rfl
                                      have hcz62_1 : w26.cell? ⟨gb306, 1, none⟩ = some (.int .i64 ((rd_T58 t302 x23_2).f1.f0)) := (blk_cell BK306.out 1).trans rfl
                                      have hcz62_2 : w26.cell? ⟨gb306, 2, none⟩ = some (.int .i64 ((rd_T58 t302 x23_2).f1.f1)) := (blk_cell BK306.out 2).trans rfl
                                      have hfz62_0 := blk_frozen BK306.out 0
                                      have hfz62_1 := blk_frozen BK306.out 1
                                      have hfz62_2 := blk_frozen BK306.out 2
                                      go_wp2
                                      go_meet
                                      case rel => exact ⟨_, (decide (((rd_T58 t302 x23_2).f0) ≥ (wrap64 (a1)))), (by first | rfl | (simp; done) | (simp [*]; done)), H', ⟨by have := HJ4.out; have := HK2.out; first | omega | exact Nat.le_refl _⟩, ⟨by (with_reducible repeat (first | apply Kd.R_alloc | apply Kd.R_drewN | apply Kd.R_drew)); exact Kd.R_mono (Kd.R_far (p := ⟨gb307, 1, none⟩) (Kd.R_far (p := ⟨gb307, 0, none⟩) (Kd.R_types HO_21.out BK307.out (by decide)) (fun _ hk => hk.2) (.int .i64 ((rd_T58 t302 x23_2).f1.f0))) (fun _ hk => hk.2) (.int .i64 ((rd_T58 t302 x23_2).f1.f1))) (fun _ hk => hk.1.2)⟩, ⟨by (with_reducible repeat (first | refine blk_drewN ?_ _ | refine blk_drew ?_ | refine blk_alloc ?_ _)); refine blk_far ?_ NB299_307.out _; (with_reducible repeat (first | refine blk_drewN ?_ _ | refine blk_drew ?_ | refine blk_alloc ?_ _)); refine blk_far ?_ NB299_307.out _; (with_reducible repeat (first | refine blk_drewN ?_ _ | refine blk_drew ?_ | refine blk_alloc ?_ _)); exact BK299.out⟩, ⟨by (with_reducible repeat (first | refine blk_drewN ?_ _ | refine blk_drew ?_ | refine blk_alloc ?_ _)); refine blk_far ?_ NB306_307.out _; (with_reducible repeat (first | refine blk_drewN ?_ _ | refine blk_drew ?_ | refine blk_alloc ?_ _)); refine blk_far ?_ NB306_307.out _; (with_reducible repeat (first | refine blk_drewN ?_ _ | refine blk_drew ?_ | refine blk_alloc ?_ _)); exact BK306.out⟩, ⟨by (with_reducible repeat (first | refine blk_drewN ?_ _ | refine blk_drew ?_ | refine blk_alloc ?_ _)); refine blk_put (cs := #[.int .i64 ((rd_T58 t302 x23_2).f1.f0), .int .i64 0]) ?_ 1 _ rfl; (with_reducible repeat (first | refine blk_drewN ?_ _ | refine blk_drew ?_ | refine blk_alloc ?_ _)); refine blk_put (cs := #[.int .i64 0, .int .i64 0]) ?_ 0 _ rfl; (with_reducible repeat (first | refine blk_drewN ?_ _ | refine blk_drew ?_ | refine blk_alloc ?_ _)); exact BK307.out⟩, ⟨by repeat (first | (with_reducible first | exact HB.out | apply below_alloc | apply pw_below_drewN | apply below_drew1 | refine below_set ?_ GE299.out | refine below_set ?_ GE306.out | refine below_set ?_ GE307.out) | exact HB.out)⟩⟩
                            · rw [if_neg c39] at H
                              have c39b0 : decide (((rd_T58 t302 x23_2).f1.f0) < 0) = false := decide_eq_false c39
                              clear c39
                              by_cases c63 : ((rd_T58 t302 x23_2).f1.f0) = 0
                              · rw [if_pos c63] at H
                                have c63b0 : (((rd_T58 t302 x23_2).f1.f0) == 0) = true := beq_iff_eq.mpr c63
                                have c63b1 : (((rd_T58 t302 x23_2).f1.f0) != 0) = false := bne_eq_false_iff_eq.mpr c63
                                clear c63
                                have H' := Aside0.mk H
                                clear H
                                have hnb64 := NB307_299.out
                                have hnc64 := NB299_307.out
                                have hnb65 := NB307_306.out
                                have hnc65 := NB306_307.out
                                have hcz66_0 : w26.cell? ⟨gb307, 0, none⟩ = some (.int .i64 0) := (blk_cell BK307.out 0).trans rfl
                                have hcz66_1 : w26.cell? ⟨gb307, 1, none⟩ = some (.int .i64 0) := (blk_cell BK307.out 1).trans rfl
                                have hfz66_0 := blk_frozen BK307.out 0
                                have hfz66_1 := blk_frozen BK307.out 1
                                go_wp2
                                go_meet
                                case rel => exact ⟨_, (true), (by first | rfl | (simp; done) | (simp [*]; done)), H', ⟨by have := HJ4.out; have := HK2.out; first | omega | exact Nat.le_refl _⟩, ⟨by (with_reducible repeat (first | apply Kd.R_alloc | apply Kd.R_drewN | apply Kd.R_drew)); exact Kd.R_mono (Kd.R_far (p := ⟨gb307, 1, none⟩) (Kd.R_far (p := ⟨gb307, 0, none⟩) (Kd.R_types HO_21.out BK307.out (by decide)) (fun _ hk => hk.2) (.int .i64 ((rd_T58 t302 x23_2).f1.f0))) (fun _ hk => hk.2) (.int .i64 ((rd_T58 t302 x23_2).f1.f1))) (fun _ hk => hk.1.2)⟩, ⟨by (with_reducible repeat (first | refine blk_drewN ?_ _ | refine blk_drew ?_ | refine blk_alloc ?_ _)); refine blk_far ?_ NB299_307.out _; (with_reducible repeat (first | refine blk_drewN ?_ _ | refine blk_drew ?_ | refine blk_alloc ?_ _)); refine blk_far ?_ NB299_307.out _; (with_reducible repeat (first | refine blk_drewN ?_ _ | refine blk_drew ?_ | refine blk_alloc ?_ _)); exact BK299.out⟩, ⟨by (with_reducible repeat (first | refine blk_drewN ?_ _ | refine blk_drew ?_ | refine blk_alloc ?_ _)); refine blk_far ?_ NB306_307.out _; (with_reducible repeat (first | refine blk_drewN ?_ _ | refine blk_drew ?_ | refine blk_alloc ?_ _)); refine blk_far ?_ NB306_307.out _; (with_reducible repeat (first | refine blk_drewN ?_ _ | refine blk_drew ?_ | refine blk_alloc ?_ _)); exact BK306.out⟩, ⟨by (with_reducible repeat (first | refine blk_drewN ?_ _ | refine blk_drew ?_ | refine blk_alloc ?_ _)); refine blk_put (cs := #[.int .i64 ((rd_T58 t302 x23_2).f1.f0), .int .i64 0]) ?_ 1 _ rfl; (with_reducible repeat (first | refine blk_drewN ?_ _ | refine blk_drew ?_ | refine blk_alloc ?_ _)); refine blk_put (cs := #[.int .i64 0, .int .i64 0]) ?_ 0 _ rfl; (with_reducible repeat (first | refine blk_drewN ?_ _ | refine blk_drew ?_ | refine blk_alloc ?_ _)); exact BK307.out⟩, ⟨by repeat (first | (with_reducible first | exact HB.out | apply below_alloc | apply pw_below_drewN | apply below_drew1 | refine below_set ?_ GE299.out | refine below_set ?_ GE306.out | refine below_set ?_ GE307.out) | exact HB.out)⟩⟩
                              · rw [if_neg c63] at H
                                have c63b0 : (((rd_T58 t302 x23_2).f1.f0) == 0) = false := beq_eq_false_iff_ne.mpr c63
                                have c63b1 : (((rd_T58 t302 x23_2).f1.f0) != 0) = true := bne_iff_ne.mpr c63
                                by_cases c67 : ((rd_T58 t302 x23_2).f0) < 0
                                · rw [if_pos c67] at H
                                  have c67b0 : decide (((rd_T58 t302 x23_2).f0) < 0) = true := decide_eq_true c67
                                  clear c67
                                  have H' := Aside0.mk H
                                  clear H
                                  have hnb68 := NB307_299.out
                                  have hnc68 := NB299_307.out
                                  have hnb69 := NB307_306.out
                                  have hnc69 := NB306_307.out
                                  have hcz70_0 : w26.cell? ⟨gb307, 0, none⟩ = some (.int .i64 0) := (blk_cell BK307.out 0).trans rfl
                                  have hcz70_1 : w26.cell? ⟨gb307, 1, none⟩ = some (.int .i64 0) := (blk_cell BK307.out 1).trans rfl
                                  have hfz70_0 := blk_frozen BK307.out 0
                                  have hfz70_1 := blk_frozen BK307.out 1
                                  have hnb71 := NB306_299.out
                                  have hnc71 := NB299_306.out
                                  have hcz72_0 : w26.cell? ⟨gb306, 0, none⟩ = some (.int .i64 ((rd_T58 t302 x23_2).f0)) := (blk_cell BK306.out 0).trans rfl
                                  have hcz72_1 : w26.cell? ⟨gb306, 1, none⟩ = some (.int .i64 ((rd_T58 t302 x23_2).f1.f0)) := (blk_cell BK306.out 1).trans rfl
                                  have hcz72_2 : w26.cell? ⟨gb306, 2, none⟩ = some (.int .i64 ((rd_T58 t302 x23_2).f1.f1)) := (blk_cell BK306.out 2).trans rfl
                                  have hfz72_0 := blk_frozen BK306.out 0
                                  have hfz72_1 := blk_frozen BK306.out 1
                                  have hfz72_2 := blk_frozen BK306.out 2
                                  go_wp2
                                  go_meet
                                  case rel => exact ⟨_, (true), (by first | rfl | (simp; done) | (simp [*]; done)), H', ⟨by have := HJ4.out; have := HK2.out; first | omega | exact Nat.le_refl _⟩, ⟨by (with_reducible repeat (first | apply Kd.R_alloc | apply Kd.R_drewN | apply Kd.R_drew)); exact Kd.R_mono (Kd.R_far (p := ⟨gb307, 1, none⟩) (Kd.R_far (p := ⟨gb307, 0, none⟩) (Kd.R_types HO_21.out BK307.out (by decide)) (fun _ hk => hk.2) (.int .i64 ((rd_T58 t302 x23_2).f1.f0))) (fun _ hk => hk.2) (.int .i64 ((rd_T58 t302 x23_2).f1.f1))) (fun _ hk => hk.1.2)⟩, ⟨by (with_reducible repeat (first | refine blk_drewN ?_ _ | refine blk_drew ?_ | refine blk_alloc ?_ _)); refine blk_far ?_ NB299_307.out _; (with_reducible repeat (first | refine blk_drewN ?_ _ | refine blk_drew ?_ | refine blk_alloc ?_ _)); refine blk_far ?_ NB299_307.out _; (with_reducible repeat (first | refine blk_drewN ?_ _ | refine blk_drew ?_ | refine blk_alloc ?_ _)); exact BK299.out⟩, ⟨by (with_reducible repeat (first | refine blk_drewN ?_ _ | refine blk_drew ?_ | refine blk_alloc ?_ _)); refine blk_far ?_ NB306_307.out _; (with_reducible repeat (first | refine blk_drewN ?_ _ | refine blk_drew ?_ | refine blk_alloc ?_ _)); refine blk_far ?_ NB306_307.out _; (with_reducible repeat (first | refine blk_drewN ?_ _ | refine blk_drew ?_ | refine blk_alloc ?_ _)); exact BK306.out⟩, ⟨by (with_reducible repeat (first | refine blk_drewN ?_ _ | refine blk_drew ?_ | refine blk_alloc ?_ _)); refine blk_put (cs := #[.int .i64 ((rd_T58 t302 x23_2).f1.f0), .int .i64 0]) ?_ 1 _ rfl; (with_reducible repeat (first | refine blk_drewN ?_ _ | refine blk_drew ?_ | refine blk_alloc ?_ _)); refine blk_put (cs := #[.int .i64 0, .int .i64 0]) ?_ 0 _ rfl; (with_reducible repeat (first | refine blk_drewN ?_ _ | refine blk_drew ?_ | refine blk_alloc ?_ _)); exact BK307.out⟩, ⟨by repeat (first | (with_reducible first | exact HB.out | apply below_alloc | apply pw_below_drewN | apply below_drew1 | refine below_set ?_ GE299.out | refine below_set ?_ GE306.out | refine below_set ?_ GE307.out) | exact HB.out)⟩⟩
                                · rw [if_neg c67] at H
                                  have c67b0 : decide (((rd_T58 t302 x23_2).f0) < 0) = false := decide_eq_false c67
                                  clear c67
                                  have H' := Aside0.mk H
                                  clear H
                                  have hnb73 := NB307_299.out
                                  have hnc73 := NB299_307.out
                                  have hnb74 := NB307_306.out
                                  have hnc74 := NB306_307.out
                                  have hcz75_0 : w26.cell? ⟨gb307, 0, none⟩ = some (.int .i64 0) := (blk_cell BK307.out 0).trans rfl
                                  have hcz75_1 : w26.cell? ⟨gb307, 1, none⟩ = some (.int .i64 0) := (blk_cell BK307.out 1).trans rfl
                                  have hfz75_0 := blk_frozen BK307.out 0
                                  have hfz75_1 := blk_frozen BK307.out 1
                                  have hnb76 := NB306_299.out
                                  have hnc76 := NB299_306.out
                                  have hcz77_0 : w26.cell? ⟨gb306, 0, none⟩ = some (.int .i64 ((rd_T58 t302 x23_2).f0)) := (blk_cell BK306.out 0).trans rfl
                                  have hcz77_1 : w26.cell? ⟨gb306, 1, none⟩ = some (.int .i64 ((rd_T58 t302 x23_2).f1.f0)) := (blk_cell BK306.out 1).trans rfl
                                  have hcz77_2 : w26.cell? ⟨gb306, 2, none⟩ = some (.int .i64 ((rd_T58 t302 x23_2).f1.f1)) := (blk_cell BK306.out 2).trans rfl
                                  have hfz77_0 := blk_frozen BK306.out 0
                                  have hfz77_1 := blk_frozen BK306.out 1
                                  have hfz77_2 := blk_frozen BK306.out 2
                                  go_wp2
                                  go_meet
                                  case rel => exact ⟨_, (decide (((rd_T58 t302 x23_2).f0) ≥ (wrap64 (a1)))), (by first | rfl | (simp; done) | (simp [*]; done)), H', ⟨by have := HJ4.out; have := HK2.out; first | omega | exact Nat.le_refl _⟩, ⟨by (with_reducible repeat (first | apply Kd.R_alloc | apply Kd.R_drewN | apply Kd.R_drew)); exact Kd.R_mono (Kd.R_far (p := ⟨gb307, 1, none⟩) (Kd.R_far (p := ⟨gb307, 0, none⟩) (Kd.R_types HO_21.out BK307.out (by decide)) (fun _ hk => hk.2) (.int .i64 ((rd_T58 t302 x23_2).f1.f0))) (fun _ hk => hk.2) (.int .i64 ((rd_T58 t302 x23_2).f1.f1))) (fun _ hk => hk.1.2)⟩, ⟨by (with_reducible repeat (first | refine blk_drewN ?_ _ | refine blk_drew ?_ | refine blk_alloc ?_ _)); refine blk_far ?_ NB299_307.out _; (with_reducible repeat (first | refine blk_drewN ?_ _ | refine blk_drew ?_ | refine blk_alloc ?_ _)); refine blk_far ?_ NB299_307.out _; (with_reducible repeat (first | refine blk_drewN ?_ _ | refine blk_drew ?_ | refine blk_alloc ?_ _)); exact BK299.out⟩, ⟨by (with_reducible repeat (first | refine blk_drewN ?_ _ | refine blk_drew ?_ | refine blk_alloc ?_ _)); refine blk_far ?_ NB306_307.out _; (with_reducible repeat (first | refine blk_drewN ?_ _ | refine blk_drew ?_ | refine blk_alloc ?_ _)); refine blk_far ?_ NB306_307.out _; (with_reducible repeat (first | refine blk_drewN ?_ _ | refine blk_drew ?_ | refine blk_alloc ?_ _)); exact BK306.out⟩, ⟨by (with_reducible repeat (first | refine blk_drewN ?_ _ | refine blk_drew ?_ | refine blk_alloc ?_ _)); refine blk_put (cs := #[.int .i64 ((rd_T58 t302 x23_2).f1.f0), .int .i64 0]) ?_ 1 _ rfl; (with_reducible repeat (first | refine blk_drewN ?_ _ | refine blk_drew ?_ | refine blk_alloc ?_ _)); refine blk_put (cs := #[.int .i64 0, .int .i64 0]) ?_ 0 _ rfl; (with_reducible repeat (first | refine blk_drewN ?_ _ | refine blk_drew ?_ | refine blk_alloc ?_ _)); exact BK307.out⟩, ⟨by repeat (first | (with_reducible first | exact HB.out | apply below_alloc | apply pw_below_drewN | apply below_drew1 | refine below_set ?_ GE299.out | refine below_set ?_ GE306.out | refine below_set ?_ GE307.out) | exact HB.out)⟩⟩
                      · rw [if_neg c30] at H
                        have c30b0 : decide (0 < ((rd_T58 t302 x23_2).f1.f0)) = false := decide_eq_false c30
                        clear c30
                        (first | rw [c30b0] | (simp only [i64_w, i32_w]; rw [c30b0]) | skip)
                        by_cases c78 : ((rd_T58 t302 x23_2).f1.f0) < 0
                        · rw [if_pos c78] at H
                          have c78b0 : decide (((rd_T58 t302 x23_2).f1.f0) < 0) = true := decide_eq_true c78
                          clear c78
                          by_cases c79 : ((rd_T58 t302 x23_2).f1.f1) > 0
                          · rw [if_pos c79] at H
                            have c79b0 : decide (0 < ((rd_T58 t302 x23_2).f1.f1)) = true := decide_eq_true c79
                            clear c79
                            have H' := Aside0.mk H
                            clear H
                            have hnb80 := NB307_299.out
                            have hnc80 := NB299_307.out
                            have hnb81 := NB307_306.out
                            have hnc81 := NB306_307.out
                            have hcz82_0 : w26.cell? ⟨gb307, 0, none⟩ = some (.int .i64 0) := (blk_cell BK307.out 0).trans rfl
                            have hcz82_1 : w26.cell? ⟨gb307, 1, none⟩ = some (.int .i64 0) := (blk_cell BK307.out 1).trans rfl
                            have hfz82_0 := blk_frozen BK307.out 0
                            have hfz82_1 := blk_frozen BK307.out 1
                            go_wp2
                            go_meet
                            case rel => exact ⟨_, (true), (by first | rfl | (simp; done) | (simp [*]; done)), H', ⟨by have := HJ4.out; have := HK2.out; first | omega | exact Nat.le_refl _⟩, ⟨by (with_reducible repeat (first | apply Kd.R_alloc | apply Kd.R_drewN | apply Kd.R_drew)); exact Kd.R_mono (Kd.R_far (p := ⟨gb307, 1, none⟩) (Kd.R_far (p := ⟨gb307, 0, none⟩) (Kd.R_types HO_21.out BK307.out (by decide)) (fun _ hk => hk.2) (.int .i64 ((rd_T58 t302 x23_2).f1.f0))) (fun _ hk => hk.2) (.int .i64 ((rd_T58 t302 x23_2).f1.f1))) (fun _ hk => hk.1.2)⟩, ⟨by (with_reducible repeat (first | refine blk_drewN ?_ _ | refine blk_drew ?_ | refine blk_alloc ?_ _)); refine blk_far ?_ NB299_307.out _; (with_reducible repeat (first | refine blk_drewN ?_ _ | refine blk_drew ?_ | refine blk_alloc ?_ _)); refine blk_far ?_ NB299_307.out _; (with_reducible repeat (first | refine blk_drewN ?_ _ | refine blk_drew ?_ | refine blk_alloc ?_ _)); exact BK299.out⟩, ⟨by (with_reducible repeat (first | refine blk_drewN ?_ _ | refine blk_drew ?_ | refine blk_alloc ?_ _)); refine blk_far ?_ NB306_307.out _; (with_reducible repeat (first | refine blk_drewN ?_ _ | refine blk_drew ?_ | refine blk_alloc ?_ _)); refine blk_far ?_ NB306_307.out _; (with_reducible repeat (first | refine blk_drewN ?_ _ | refine blk_drew ?_ | refine blk_alloc ?_ _)); exact BK306.out⟩, ⟨by (with_reducible repeat (first | refine blk_drewN ?_ _ | refine blk_drew ?_ | refine blk_alloc ?_ _)); refine blk_put (cs := #[.int .i64 ((rd_T58 t302 x23_2).f1.f0), .int .i64 0]) ?_ 1 _ rfl; (with_reducible repeat (first | refine blk_drewN ?_ _ | refine blk_drew ?_ | refine blk_alloc ?_ _)); refine blk_put (cs := #[.int .i64 0, .int .i64 0]) ?_ 0 _ rfl; (with_reducible repeat (first | refine blk_drewN ?_ _ | refine blk_drew ?_ | refine blk_alloc ?_ _)); exact BK307.out⟩, ⟨by repeat (first | (with_reducible first | exact HB.out | apply below_alloc | apply pw_below_drewN | apply below_drew1 | refine below_set ?_ GE299.out | refine below_set ?_ GE306.out | refine below_set ?_ GE307.out) | exact HB.out)⟩⟩
                          · rw [if_neg c79] at H
                            have c79b0 : decide (0 < ((rd_T58 t302 x23_2).f1.f1)) = false := decide_eq_false c79
                            clear c79
                            by_cases c83 : ((rd_T58 t302 x23_2).f1.f1) < (wrap64 (((rd_T58 t302 x23_2).f1.f0) * 131072))
                            · rw [if_pos c83] at H
                              have c83b0 : decide (((rd_T58 t302 x23_2).f1.f1) < (wrap64 (((rd_T58 t302 x23_2).f1.f0) * 131072))) = true := decide_eq_true c83
                              clear c83
                              have H' := Aside0.mk H
                              clear H
                              have hnb84 := NB307_299.out
                              have hnc84 := NB299_307.out
                              have hnb85 := NB307_306.out
                              have hnc85 := NB306_307.out
                              have hcz86_0 : w26.cell? ⟨gb307, 0, none⟩ = some (.int .i64 0) := (blk_cell BK307.out 0).trans rfl
                              have hcz86_1 : w26.cell? ⟨gb307, 1, none⟩ = some (.int .i64 0) := (blk_cell BK307.out 1).trans rfl
                              have hfz86_0 := blk_frozen BK307.out 0
                              have hfz86_1 := blk_frozen BK307.out 1
                              go_wp2
                              go_meet
                              case rel => exact ⟨_, (true), (by first | rfl | (simp; done) | (simp [*]; done)), H', ⟨by have := HJ4.out; have := HK2.out; first | omega | exact Nat.le_refl _⟩, ⟨by (with_reducible repeat (first | apply Kd.R_alloc | apply Kd.R_drewN | apply Kd.R_drew)); exact Kd.R_mono (Kd.R_far (p := ⟨gb307, 1, none⟩) (Kd.R_far (p := ⟨gb307, 0, none⟩) (Kd.R_types HO_21.out BK307.out (by decide)) (fun _ hk => hk.2) (.int .i64 ((rd_T58 t302 x23_2).f1.f0))) (fun _ hk => hk.2) (.int .i64 ((rd_T58 t302 x23_2).f1.f1))) (fun _ hk => hk.1.2)⟩, ⟨by (with_reducible repeat (first | refine blk_drewN ?_ _ | refine blk_drew ?_ | refine blk_alloc ?_ _)); refine blk_far ?_ NB299_307.out _; (with_reducible repeat (first | refine blk_drewN ?_ _ | refine blk_drew ?_ | refine blk_alloc ?_ _)); refine blk_far ?_ NB299_307.out _; (with_reducible repeat (first | refine blk_drewN ?_ _ | refine blk_drew ?_ | refine blk_alloc ?_ _)); exact BK299.out⟩, ⟨by (with_reducible repeat (first | refine blk_drewN ?_ _ | refine blk_drew ?_ | refine blk_alloc ?_ _)); refine blk_far ?_ NB306_307.out _; (with_reducible repeat (first | refine blk_drewN ?_ _ | refine blk_drew ?_ | refine blk_alloc ?_ _)); refine blk_far ?_ NB306_307.out _; (with_reducible repeat (first | refine blk_drewN ?_ _ | refine blk_drew ?_ | refine blk_alloc ?_ _)); exact BK306.out⟩, ⟨by (with_reducible repeat (first | refine blk_drewN ?_ _ | refine blk_drew ?_ | refine blk_alloc ?_ _)); refine blk_put (cs := #[.int .i64 ((rd_T58 t302 x23_2).f1.f0), .int .i64 0]) ?_ 1 _ rfl; (with_reducible repeat (first | refine blk_drewN ?_ _ | refine blk_drew ?_ | refine blk_alloc ?_ _)); refine blk_put (cs := #[.int .i64 0, .int .i64 0]) ?_ 0 _ rfl; (with_reducible repeat (first | refine blk_drewN ?_ _ | refine blk_drew ?_ | refine blk_alloc ?_ _)); exact BK307.out⟩, ⟨by repeat (first | (with_reducible first | exact HB.out | apply below_alloc | apply pw_below_drewN | apply below_drew1 | refine below_set ?_ GE299.out | refine below_set ?_ GE306.out | refine below_set ?_ GE307.out) | exact HB.out)⟩⟩
                            · rw [if_neg c83] at H
                              have c83b0 : decide (((rd_T58 t302 x23_2).f1.f1) < (wrap64 (((rd_T58 t302 x23_2).f1.f0) * 131072))) = false := decide_eq_false c83
                              clear c83
                              by_cases c87 : ((rd_T58 t302 x23_2).f1.f0) = 0
                              · rw [if_pos c87] at H
                                have c87b0 : (((rd_T58 t302 x23_2).f1.f0) == 0) = true := beq_iff_eq.mpr c87
                                have c87b1 : (((rd_T58 t302 x23_2).f1.f0) != 0) = false := bne_eq_false_iff_eq.mpr c87
                                clear c87
                                have H' := Aside0.mk H
                                clear H
                                have hnb88 := NB307_299.out
                                have hnc88 := NB299_307.out
                                have hnb89 := NB307_306.out
                                have hnc89 := NB306_307.out
                                have hcz90_0 : w26.cell? ⟨gb307, 0, none⟩ = some (.int .i64 0) := (blk_cell BK307.out 0).trans rfl
                                have hcz90_1 : w26.cell? ⟨gb307, 1, none⟩ = some (.int .i64 0) := (blk_cell BK307.out 1).trans rfl
                                have hfz90_0 := blk_frozen BK307.out 0
                                have hfz90_1 := blk_frozen BK307.out 1
                                go_wp2
                                go_meet
                                case rel => exact ⟨_, (true), (by first | rfl | (simp; done) | (simp [*]; done)), H', ⟨by have := HJ4.out; have := HK2.out; first | omega | exact Nat.le_refl _⟩, ⟨by (with_reducible repeat (first | apply Kd.R_alloc | apply Kd.R_drewN | apply Kd.R_drew)); exact Kd.R_mono (Kd.R_far (p := ⟨gb307, 1, none⟩) (Kd.R_far (p := ⟨gb307, 0, none⟩) (Kd.R_types HO_21.out BK307.out (by decide)) (fun _ hk => hk.2) (.int .i64 ((rd_T58 t302 x23_2).f1.f0))) (fun _ hk => hk.2) (.int .i64 ((rd_T58 t302 x23_2).f1.f1))) (fun _ hk => hk.1.2)⟩, ⟨by (with_reducible repeat (first | refine blk_drewN ?_ _ | refine blk_drew ?_ | refine blk_alloc ?_ _)); refine blk_far ?_ NB299_307.out _; (with_reducible repeat (first | refine blk_drewN ?_ _ | refine blk_drew ?_ | refine blk_alloc ?_ _)); refine blk_far ?_ NB299_307.out _; (with_reducible repeat (first | refine blk_drewN ?_ _ | refine blk_drew ?_ | refine blk_alloc ?_ _)); exact BK299.out⟩, ⟨by (with_reducible repeat (first | refine blk_drewN ?_ _ | refine blk_drew ?_ | refine blk_alloc ?_ _)); refine blk_far ?_ NB306_307.out _; (with_reducible repeat (first | refine blk_drewN ?_ _ | refine blk_drew ?_ | refine blk_alloc ?_ _)); refine blk_far ?_ NB306_307.out _; (with_reducible repeat (first | refine blk_drewN ?_ _ | refine blk_drew ?_ | refine blk_alloc ?_ _)); exact BK306.out⟩, ⟨by (with_reducible repeat (first | refine blk_drewN ?_ _ | refine blk_drew ?_ | refine blk_alloc ?_ _)); refine blk_put (cs := #[.int .i64 ((rd_T58 t302 x23_2).f1.f0), .int .i64 0]) ?_ 1 _ rfl; (with_reducible repeat (first | refine blk_drewN ?_ _ | refine blk_drew ?_ | refine blk_alloc ?_ _)); refine blk_put (cs := #[.int .i64 0, .int .i64 0]) ?_ 0 _ rfl; (with_reducible repeat (first | refine blk_drewN ?_ _ | refine blk_drew ?_ | refine blk_alloc ?_ _)); exact BK307.out⟩, ⟨by repeat (first | (with_reducible first | exact HB.out | apply below_alloc | apply pw_below_drewN | apply below_drew1 | refine below_set ?_ GE299.out | refine below_set ?_ GE306.out | refine below_set ?_ GE307.out) | exact HB.out)⟩⟩
                              · rw [if_neg c87] at H
                                have c87b0 : (((rd_T58 t302 x23_2).f1.f0) == 0) = false := beq_eq_false_iff_ne.mpr c87
                                have c87b1 : (((rd_T58 t302 x23_2).f1.f0) != 0) = true := bne_iff_ne.mpr c87
                                by_cases c91 : ((rd_T58 t302 x23_2).f0) < 0
                                · rw [if_pos c91] at H
                                  have c91b0 : decide (((rd_T58 t302 x23_2).f0) < 0) = true := decide_eq_true c91
                                  clear c91
                                  have H' := Aside0.mk H
                                  clear H
                                  have hnb92 := NB307_299.out
                                  have hnc92 := NB299_307.out
                                  have hnb93 := NB307_306.out
                                  have hnc93 := NB306_307.out
                                  have hcz94_0 : w26.cell? ⟨gb307, 0, none⟩ = some (.int .i64 0) := (blk_cell BK307.out 0).trans rfl
                                  have hcz94_1 : w26.cell? ⟨gb307, 1, none⟩ = some (.int .i64 0) := (blk_cell BK307.out 1).trans rfl
                                  have hfz94_0 := blk_frozen BK307.out 0
                                  have hfz94_1 := blk_frozen BK307.out 1
                                  have hnb95 := NB306_299.out
                                  have hnc95 := NB299_306.out
                                  have hcz96_0 : w26.cell? ⟨gb306, 0, none⟩ = some (.int .i64 ((rd_T58 t302 x23_2).f0)) := (blk_cell BK306.out 0).trans rfl
                                  have hcz96_1 : w26.cell? ⟨gb306, 1, none⟩ = some (.int .i64 ((rd_T58 t302 x23_2).f1.f0)) := (blk_cell BK306.out 1).trans rfl
                                  have hcz96_2 : w26.cell? ⟨gb306, 2, none⟩ = some (.int .i64 ((rd_T58 t302 x23_2).f1.f1)) := (blk_cell BK306.out 2).trans rfl
                                  have hfz96_0 := blk_frozen BK306.out 0
                                  have hfz96_1 := blk_frozen BK306.out 1
                                  have hfz96_2 := blk_frozen BK306.out 2
                                  go_wp2
                                  go_meet
                                  case rel => exact ⟨_, (true), (by first | rfl | (simp; done) | (simp [*]; done)), H', ⟨by have := HJ4.out; have := HK2.out; first | omega | exact Nat.le_refl _⟩, ⟨by (with_reducible repeat (first | apply Kd.R_alloc | apply Kd.R_drewN | apply Kd.R_drew)); exact Kd.R_mono (Kd.R_far (p := ⟨gb307, 1, none⟩) (Kd.R_far (p := ⟨gb307, 0, none⟩) (Kd.R_types HO_21.out BK307.out (by decide)) (fun _ hk => hk.2) (.int .i64 ((rd_T58 t302 x23_2).f1.f0))) (fun _ hk => hk.2) (.int .i64 ((rd_T58 t302 x23_2).f1.f1))) (fun _ hk => hk.1.2)⟩, ⟨by (with_reducible repeat (first | refine blk_drewN ?_ _ | refine blk_drew ?_ | refine blk_alloc ?_ _)); refine blk_far ?_ NB299_307.out _; (with_reducible repeat (first | refine blk_drewN ?_ _ | refine blk_drew ?_ | refine blk_alloc ?_ _)); refine blk_far ?_ NB299_307.out _; (with_reducible repeat (first | refine blk_drewN ?_ _ | refine blk_drew ?_ | refine blk_alloc ?_ _)); exact BK299.out⟩, ⟨by (with_reducible repeat (first | refine blk_drewN ?_ _ | refine blk_drew ?_ | refine blk_alloc ?_ _)); refine blk_far ?_ NB306_307.out _; (with_reducible repeat (first | refine blk_drewN ?_ _ | refine blk_drew ?_ | refine blk_alloc ?_ _)); refine blk_far ?_ NB306_307.out _; (with_reducible repeat (first | refine blk_drewN ?_ _ | refine blk_drew ?_ | refine blk_alloc ?_ _)); exact BK306.out⟩, ⟨by (with_reducible repeat (first | refine blk_drewN ?_ _ | refine blk_drew ?_ | refine blk_alloc ?_ _)); refine blk_put (cs := #[.int .i64 ((rd_T58 t302 x23_2).f1.f0), .int .i64 0]) ?_ 1 _ rfl; (with_reducible repeat (first | refine blk_drewN ?_ _ | refine blk_drew ?_ | refine blk_alloc ?_ _)); refine blk_put (cs := #[.int .i64 0, .int .i64 0]) ?_ 0 _ rfl; (with_reducible repeat (first | refine blk_drewN ?_ _ | refine blk_drew ?_ | refine blk_alloc ?_ _)); exact BK307.out⟩, ⟨by repeat (first | (with_reducible first | exact HB.out | apply below_alloc | apply pw_below_drewN | apply below_drew1 | refine below_set ?_ GE299.out | refine below_set ?_ GE306.out | refine below_set ?_ GE307.out) | exact HB.out)⟩⟩
                                · rw [if_neg c91] at H
                                  have c91b0 : decide (((rd_T58 t302 x23_2).f0) < 0) = false := decide_eq_false c91
                                  clear c91
                                  have H' := Aside0.mk H
                                  clear H
                                  have hnb97 := NB307_299.out
                                  have hnc97 := NB299_307.out
                                  have hnb98 := NB307_306.out
                                  have hnc98 := NB306_307.out
                                  have hcz99_0 : w26.cell? ⟨gb307, 0, none⟩ = some (.int .i64 0) := (blk_cell BK307.out 0).trans rfl
                                  have hcz99_1 : w26.cell? ⟨gb307, 1, none⟩ = some (.int .i64 0) := (blk_cell BK307.out 1).trans rfl
                                  have hfz99_0 := blk_frozen BK307.out 0
                                  have hfz99_1 := blk_frozen BK307.out 1
                                  have hnb100 := NB306_299.out
                                  have hnc100 := NB299_306.out
                                  have hcz101_0 : w26.cell? ⟨gb306, 0, none⟩ = some (.int .i64 ((rd_T58 t302 x23_2).f0)) := (blk_cell BK306.out 0).trans rfl
                                  have hcz101_1 : w26.cell? ⟨gb306, 1, none⟩ = some (.int .i64 ((rd_T58 t302 x23_2).f1.f0)) := (blk_cell BK306.out 1).trans rfl
                                  have hcz101_2 : w26.cell? ⟨gb306, 2, none⟩ = some (.int .i64 ((rd_T58 t302 x23_2).f1.f1)) := (blk_cell BK306.out 2).trans rfl
                                  have hfz101_0 := blk_frozen BK306.out 0
                                  have hfz101_1 := blk_frozen BK306.out 1
                                  have hfz101_2 := blk_frozen BK306.out 2
                                  go_wp2
                                  go_meet
                                  case rel => exact ⟨_, (decide (((rd_T58 t302 x23_2).f0) ≥ (wrap64 (a1)))), (by first | rfl | (simp; done) | (simp [*]; done)), H', ⟨by have := HJ4.out; have := HK2.out; first | omega | exact Nat.le_refl _⟩, ⟨by (with_reducible repeat (first | apply Kd.R_alloc | apply Kd.R_drewN | apply Kd.R_drew)); exact Kd.R_mono (Kd.R_far (p := ⟨gb307, 1, none⟩) (Kd.R_far (p := ⟨gb307, 0, none⟩) (Kd.R_types HO_21.out BK307.out (by decide)) (fun _ hk => hk.2) (.int .i64 ((rd_T58 t302 x23_2).f1.f0))) (fun _ hk => hk.2) (.int .i64 ((rd_T58 t302 x23_2).f1.f1))) (fun _ hk => hk.1.2)⟩, ⟨by (with_reducible repeat (first | refine blk_drewN ?_ _ | refine blk_drew ?_ | refine blk_alloc ?_ _)); refine blk_far ?_ NB299_307.out _; (with_reducible repeat (first | refine blk_drewN ?_ _ | refine blk_drew ?_ | refine blk_alloc ?_ _)); refine blk_far ?_ NB299_307.out _; (with_reducible repeat (first | refine blk_drewN ?_ _ | refine blk_drew ?_ | refine blk_alloc ?_ _)); exact BK299.out⟩, ⟨by (with_reducible repeat (first | refine blk_drewN ?_ _ | refine blk_drew ?_ | refine blk_alloc ?_ _)); refine blk_far ?_ NB306_307.out _; (with_reducible repeat (first | refine blk_drewN ?_ _ | refine blk_drew ?_ | refine blk_alloc ?_ _)); refine blk_far ?_ NB306_307.out _; (with_reducible repeat (first | refine blk_drewN ?_ _ | refine blk_drew ?_ | refine blk_alloc ?_ _)); exact BK306.out⟩, ⟨by (with_reducible repeat (first | refine blk_drewN ?_ _ | refine blk_drew ?_ | refine blk_alloc ?_ _)); refine blk_put (cs := #[.int .i64 ((rd_T58 t302 x23_2).f1.f0), .int .i64 0]) ?_ 1 _ rfl; (with_reducible repeat (first | refine blk_drewN ?_ _ | refine blk_drew ?_ | refine blk_alloc ?_ _)); refine blk_put (cs := #[.int .i64 0, .int .i64 0]) ?_ 0 _ rfl; (with_reducible repeat (first | refine blk_drewN ?_ _ | refine blk_drew ?_ | refine blk_alloc ?_ _)); exact BK307.out⟩, ⟨by repeat (first | (with_reducible first | exact HB.out | apply below_alloc | apply pw_below_drewN | apply below_drew1 | refine below_set ?_ GE299.out | refine below_set ?_ GE306.out | refine below_set ?_ GE307.out) | exact HB.out)⟩⟩
                        · rw [if_neg c78] at H
                          have c78b0 : decide (((rd_T58 t302 x23_2).f1.f0) < 0) = false := decide_eq_false c78
                          clear c78
                          by_cases c102 : ((rd_T58 t302 x23_2).f1.f0) = 0
                          · rw [if_pos c102] at H
                            have c102b0 : (((rd_T58 t302 x23_2).f1.f0) == 0) = true := beq_iff_eq.mpr c102
                            have c102b1 : (((rd_T58 t302 x23_2).f1.f0) != 0) = false := bne_eq_false_iff_eq.mpr c102
                            clear c102
                            have H' := Aside0.mk H
                            clear H
                            have hnb103 := NB307_299.out
                            have hnc103 := NB299_307.out
                            have hnb104 := NB307_306.out
                            have hnc104 := NB306_307.out
                            have hcz105_0 : w26.cell? ⟨gb307, 0, none⟩ = some (.int .i64 0) := (blk_cell BK307.out 0).trans rfl
                            have hcz105_1 : w26.cell? ⟨gb307, 1, none⟩ = some (.int .i64 0) := (blk_cell BK307.out 1).trans rfl
                            have hfz105_0 := blk_frozen BK307.out 0
                            have hfz105_1 := blk_frozen BK307.out 1
                            go_wp2
                            go_meet
                            case rel => exact ⟨_, (true), (by first | rfl | (simp; done) | (simp [*]; done)), H', ⟨by have := HJ4.out; have := HK2.out; first | omega | exact Nat.le_refl _⟩, ⟨by (with_reducible repeat (first | apply Kd.R_alloc | apply Kd.R_drewN | apply Kd.R_drew)); exact Kd.R_mono (Kd.R_far (p := ⟨gb307, 1, none⟩) (Kd.R_far (p := ⟨gb307, 0, none⟩) (Kd.R_types HO_21.out BK307.out (by decide)) (fun _ hk => hk.2) (.int .i64 ((rd_T58 t302 x23_2).f1.f0))) (fun _ hk => hk.2) (.int .i64 ((rd_T58 t302 x23_2).f1.f1))) (fun _ hk => hk.1.2)⟩, ⟨by (with_reducible repeat (first | refine blk_drewN ?_ _ | refine blk_drew ?_ | refine blk_alloc ?_ _)); refine blk_far ?_ NB299_307.out _; (with_reducible repeat (first | refine blk_drewN ?_ _ | refine blk_drew ?_ | refine blk_alloc ?_ _)); refine blk_far ?_ NB299_307.out _; (with_reducible repeat (first | refine blk_drewN ?_ _ | refine blk_drew ?_ | refine blk_alloc ?_ _)); exact BK299.out⟩, ⟨by (with_reducible repeat (first | refine blk_drewN ?_ _ | refine blk_drew ?_ | refine blk_alloc ?_ _)); refine blk_far ?_ NB306_307.out _; (with_reducible repeat (first | refine blk_drewN ?_ _ | refine blk_drew ?_ | refine blk_alloc ?_ _)); refine blk_far ?_ NB306_307.out _; (with_reducible repeat (first | refine blk_drewN ?_ _ | refine blk_drew ?_ | refine blk_alloc ?_ _)); exact BK306.out⟩, ⟨by (with_reducible repeat (first | refine blk_drewN ?_ _ | refine blk_drew ?_ | refine blk_alloc ?_ _)); refine blk_put (cs := #[.int .i64 ((rd_T58 t302 x23_2).f1.f0), .int .i64 0]) ?_ 1 _ rfl; (with_reducible repeat (first | refine blk_drewN ?_ _ | refine blk_drew ?_ | refine blk_alloc ?_ _)); refine blk_put (cs := #[.int .i64 0, .int .i64 0]) ?_ 0 _ rfl; (with_reducible repeat (first | refine blk_drewN ?_ _ | refine blk_drew ?_ | refine blk_alloc ?_ _)); exact BK307.out⟩, ⟨by repeat (first | (with_reducible first | exact HB.out | apply below_alloc | apply pw_below_drewN | apply below_drew1 | refine below_set ?_ GE299.out | refine below_set ?_ GE306.out | refine below_set ?_ GE307.out) | exact HB.out)⟩⟩
                          · rw [if_neg c102] at H
                            have c102b0 : (((rd_T58 t302 x23_2).f1.f0) == 0) = false := beq_eq_false_iff_ne.mpr c102
                            have c102b1 : (((rd_T58 t302 x23_2).f1.f0) != 0) = true := bne_iff_ne.mpr c102
                            by_cases c106 : ((rd_T58 t302 x23_2).f0) < 0
                            · rw [if_pos c106] at H
                              have c106b0 : decide (((rd_T58 t302 x23_2).f0) < 0) = true := decide_eq_true c106
                              clear c106
                              have H' := Aside0.mk H
                              clear H
                              have hnb107 := NB307_299.out
                              have hnc107 := NB299_307.out
                              have hnb108 := NB307_306.out
                              have hnc108 := NB306_307.out
                              have hcz109_0 : w26.cell? ⟨gb307, 0, none⟩ = some (.int .i64 0) := (blk_cell BK307.out 0).trans rfl
                              have hcz109_1 : w26.cell? ⟨gb307, 1, none⟩ = some (.int .i64 0) := (blk_cell BK307.out 1).trans rfl
                              have hfz109_0 := blk_frozen BK307.out 0
                              have hfz109_1 := blk_frozen BK307.out 1
                              have hnb110 := NB306_299.out
                              have hnc110 := NB299_306.out
                              have hcz111_0 : w26.cell? ⟨gb306, 0, none⟩ = some (.int .i64 ((rd_T58 t302 x23_2).f0)) := (blk_cell BK306.out 0).trans rfl
                              have hcz111_1 : w26.cell? ⟨gb306, 1, none⟩ = some (.int .i64 ((rd_T58 t302 x23_2).f1.f0)) := (blk_cell BK306.out 1).trans rfl
                              have hcz111_2 : w26.cell? ⟨gb306, 2, none⟩ = some (.int .i64 ((rd_T58 t302 x23_2).f1.f1)) := (blk_cell BK306.out 2).trans rfl
                              have hfz111_0 := blk_frozen BK306.out 0
                              have hfz111_1 := blk_frozen BK306.out 1
                              have hfz111_2 := blk_frozen BK306.out 2
                              go_wp2
                              go_meet
                              case rel => exact ⟨_, (true), (by first | rfl | (simp; done) | (simp [*]; done)), H', ⟨by have := HJ4.out; have := HK2.out; first | omega | exact Nat.le_refl _⟩, ⟨by (with_reducible repeat (first | apply Kd.R_alloc | apply Kd.R_drewN | apply Kd.R_drew)); exact Kd.R_mono (Kd.R_far (p := ⟨gb307, 1, none⟩) (Kd.R_far (p := ⟨gb307, 0, none⟩) (Kd.R_types HO_21.out BK307.out (by decide)) (fun _ hk => hk.2) (.int .i64 ((rd_T58 t302 x23_2).f1.f0))) (fun _ hk => hk.2) (.int .i64 ((rd_T58 t302 x23_2).f1.f1))) (fun _ hk => hk.1.2)⟩, ⟨by (with_reducible repeat (first | refine blk_drewN ?_ _ | refine blk_drew ?_ | refine blk_alloc ?_ _)); refine blk_far ?_ NB299_307.out _; (with_reducible repeat (first | refine blk_drewN ?_ _ | refine blk_drew ?_ | refine blk_alloc ?_ _)); refine blk_far ?_ NB299_307.out _; (with_reducible repeat (first | refine blk_drewN ?_ _ | refine blk_drew ?_ | refine blk_alloc ?_ _)); exact BK299.out⟩, ⟨by (with_reducible repeat (first | refine blk_drewN ?_ _ | refine blk_drew ?_ | refine blk_alloc ?_ _)); refine blk_far ?_ NB306_307.out _; (with_reducible repeat (first | refine blk_drewN ?_ _ | refine blk_drew ?_ | refine blk_alloc ?_ _)); refine blk_far ?_ NB306_307.out _; (with_reducible repeat (first | refine blk_drewN ?_ _ | refine blk_drew ?_ | refine blk_alloc ?_ _)); exact BK306.out⟩, ⟨by (with_reducible repeat (first | refine blk_drewN ?_ _ | refine blk_drew ?_ | refine blk_alloc ?_ _)); refine blk_put (cs := #[.int .i64 ((rd_T58 t302 x23_2).f1.f0), .int .i64 0]) ?_ 1 _ rfl; (with_reducible repeat (first | refine blk_drewN ?_ _ | refine blk_drew ?_ | refine blk_alloc ?_ _)); refine blk_put (cs := #[.int .i64 0, .int .i64 0]) ?_ 0 _ rfl; (with_reducible repeat (first | refine blk_drewN ?_ _ | refine blk_drew ?_ | refine blk_alloc ?_ _)); exact BK307.out⟩, ⟨by repeat (first | (with_reducible first | exact HB.out | apply below_alloc | apply pw_below_drewN | apply below_drew1 | refine below_set ?_ GE299.out | refine below_set ?_ GE306.out | refine below_set ?_ GE307.out) | exact HB.out)⟩⟩
                            · rw [if_neg c106] at H
                              have c106b0 : decide (((rd_T58 t302 x23_2).f0) < 0) = false := decide_eq_false c106
                              clear c106
                              have H' := Aside0.mk H
                              clear H
                              have hnb112 := NB307_299.out
                              have hnc112 := NB299_307.out
                              have hnb113 := NB307_306.out
                              have hnc113 := NB306_307.out
                              have hcz114_0 : w26.cell? ⟨gb307, 0, none⟩ = some (.int .i64 0) := (blk_cell BK307.out 0).trans rfl
                              have hcz114_1 : w26.cell? ⟨gb307, 1, none⟩ = some (.int .i64 0) := (blk_cell BK307.out 1).trans rfl
                              have hfz114_0 := blk_frozen BK307.out 0
                              have hfz114_1 := blk_frozen BK307.out 1
                              have hnb115 := NB306_299.out
                              have hnc115 := NB299_306.out
                              have hcz116_0 : w26.cell? ⟨gb306, 0, none⟩ = some (.int .i64 ((rd_T58 t302 x23_2).f0)) := (blk_cell BK306.out 0).trans rfl
                              have hcz116_1 : w26.cell? ⟨gb306, 1, none⟩ = some (.int .i64 ((rd_T58 t302 x23_2).f1.f0)) := (blk_cell BK306.out 1).trans rfl
                              have hcz116_2 : w26.cell? ⟨gb306, 2, none⟩ = some (.int .i64 ((rd_T58 t302 x23_2).f1.f1)) := (blk_cell BK306.out 2).trans rfl
                              have hfz116_0 := blk_frozen BK306.out 0
                              have hfz116_1 := blk_frozen BK306.out 1
                              have hfz116_2 := blk_frozen BK306.out 2
                              go_wp2
                              go_meet
                              case rel => exact ⟨_, (decide (((rd_T58 t302 x23_2).f0) ≥ (wrap64 (a1)))), (by first | rfl | (simp; done) | (simp [*]; done)), H', ⟨by have := HJ4.out; have := HK2.out; first | omega | exact Nat.le_refl _⟩, ⟨by (with_reducible repeat (first | apply Kd.R_alloc | apply Kd.R_drewN | apply Kd.R_drew)); exact Kd.R_mono (Kd.R_far (p := ⟨gb307, 1, none⟩) (Kd.R_far (p := ⟨gb307, 0, none⟩) (Kd.R_types HO_21.out BK307.out (by decide)) (fun _ hk => hk.2) (.int .i64 ((rd_T58 t302 x23_2).f1.f0))) (fun _ hk => hk.2) (.int .i64 ((rd_T58 t302 x23_2).f1.f1))) (fun _ hk => hk.1.2)⟩, ⟨by (with_reducible repeat (first | refine blk_drewN ?_ _ | refine blk_drew ?_ | refine blk_alloc ?_ _)); refine blk_far ?_ NB299_307.out _; (with_reducible repeat (first | refine blk_drewN ?_ _ | refine blk_drew ?_ | refine blk_alloc ?_ _)); refine blk_far ?_ NB299_307.out _; (with_reducible repeat (first | refine blk_drewN ?_ _ | refine blk_drew ?_ | refine blk_alloc ?_ _)); exact BK299.out⟩, ⟨by (with_reducible repeat (first | refine blk_drewN ?_ _ | refine blk_drew ?_ | refine blk_alloc ?_ _)); refine blk_far ?_ NB306_307.out _; (with_reducible repeat (first | refine blk_drewN ?_ _ | refine blk_drew ?_ | refine blk_alloc ?_ _)); refine blk_far ?_ NB306_307.out _; (with_reducible repeat (first | refine blk_drewN ?_ _ | refine blk_drew ?_ | refine blk_alloc ?_ _)); exact BK306.out⟩, ⟨by (with_reducible repeat (first | refine blk_drewN ?_ _ | refine blk_drew ?_ | refine blk_alloc ?_ _)); refine blk_put (cs := #[.int .i64 ((rd_T58 t302 x23_2).f1.f0), .int .i64 0]) ?_ 1 _ rfl; (with_reducible repeat (first | refine blk_drewN ?_ _ | refine blk_drew ?_ | refine blk_alloc ?_ _)); refine blk_put (cs := #[.int .i64 0, .int .i64 0]) ?_ 0 _ rfl; (with_reducible repeat (first | refine blk_drewN ?_ _ | refine blk_drew ?_ | refine blk_alloc ?_ _)); exact BK307.out⟩, ⟨by repeat (first | (with_reducible first | exact HB.out | apply below_alloc | apply pw_below_drewN | apply below_drew1 | refine below_set ?_ GE299.out | refine below_set ?_ GE306.out | refine below_set ?_ GE307.out) | exact HB.out)⟩⟩
                    case rest =>
                      clear HC22
                      try clear c1
                      try clear c2
                      try clear p2
                      try clear c3
                      try clear p3
                      try clear q3
                      try clear hx3
                      try clear c4
                      try clear c5
                      try clear c6
                      try clear p6
                      try clear c7
                      try clear c8
                      try clear c9
                      try clear c10
                      try clear c11
                      try clear c12
                      try clear c14
                      try clear c19
                      try clear c19b0
                      try clear c20
                      try clear c20b0
                      try clear c21
                      try clear c21b0
                      try clear c23
                      try clear c24
                      try clear c27
                      try clear c28
                      try clear c30
                      try clear c30b0
                      try clear p30
                      try clear q30
                      try clear hx30
                      try clear c31
                      try clear c31b0
                      try clear c32
                      try clear c33
                      try clear c35
                      try clear c35b0
                      try clear c36
                      try clear c37
                      try clear c39
                      try clear c39b0
                      try clear c40
                      try clear c40b0
                      try clear c41
                      try clear c42
                      try clear c44
                      try clear c44b0
                      try clear c45
                      try clear c46
                      try clear c48
                      try clear c48b0
                      try clear c48b1
                      try clear c49
                      try clear c50
                      try clear c52
                      try clear c52b0
                      try clear c53
                      try clear c54
                      try clear c56
                      try clear c58
                      try clear c59
                      try clear c61
                      try clear c63
                      try clear c63b0
                      try clear c63b1
                      try clear c64
                      try clear p64
                      try clear c65
                      try clear c67
                      try clear c67b0
                      try clear c68
                      try clear c69
                      try clear c71
                      try clear c73
                      try clear c74
                      try clear c76
                      try clear c78
                      try clear c78b0
                      try clear c79
                      try clear c79b0
                      try clear c80
                      try clear c81
                      try clear c83
                      try clear c83b0
                      try clear c84
                      try clear c85
                      try clear c87
                      try clear c87b0
                      try clear c87b1
                      try clear c88
                      try clear c89
                      try clear c91
                      try clear c91b0
                      try clear c92
                      try clear c93
                      try clear c95
                      try clear c97
                      try clear c98
                      try clear c100
                      try clear c102
                      try clear c102b0
                      try clear c102b1
                      try clear c103
                      try clear c104
                      try clear c106
                      try clear c106b0
                      try clear c107
                      try clear c108
                      try clear c110
                      try clear c112
                      try clear c113
                      try clear c115
                      try clear hcz101_0
                      try clear hcz101_1
                      try clear hcz101_2
                      try clear hcz105_0
                      try clear hcz105_1
                      try clear hcz109_0
                      try clear hcz109_1
                      try clear hcz10_0
                      try clear hcz10_1
                      try clear hcz10_2
                      try clear hcz10_3
                      try clear hcz111_0
                      try clear hcz111_1
                      try clear hcz111_2
                      try clear hcz114_0
                      try clear hcz114_1
                      try clear hcz116_0
                      try clear hcz116_1
                      try clear hcz116_2
                      try clear hcz12_0
                      try clear hcz12_1
                      try clear hcz12_2
                      try clear hcz12_3
                      try clear hcz16_0
                      try clear hcz16_1
                      try clear hcz16_2
                      try clear hcz16_3
                      try clear hcz25_0
                      try clear hcz25_1
                      try clear hcz25_2
                      try clear hcz29_0
                      try clear hcz29_1
                      try clear hcz34_0
                      try clear hcz34_1
                      try clear hcz38_0
                      try clear hcz38_1
                      try clear hcz43_0
                      try clear hcz43_1
                      try clear hcz47_0
                      try clear hcz47_1
                      try clear hcz51_0
                      try clear hcz51_1
                      try clear hcz55_0
                      try clear hcz55_1
                      try clear hcz57_0
                      try clear hcz57_1
                      try clear hcz57_2
                      try clear hcz60_0
                      try clear hcz60_1
                      try clear hcz62_0
                      try clear hcz62_1
                      try clear hcz62_2
                      try clear hcz66_0
                      try clear hcz66_1
                      try clear hcz70_0
                      try clear hcz70_1
                      try clear hcz72_0
                      try clear hcz72_1
                      try clear hcz72_2
                      try clear hcz75_0
                      try clear hcz75_1
                      try clear hcz77_0
                      try clear hcz77_1
                      try clear hcz77_2
                      try clear hcz82_0
                      try clear hcz82_1
                      try clear hcz86_0
                      try clear hcz86_1
                      try clear hcz90_0
                      try clear hcz90_1
                      try clear hcz94_0
                      try clear hcz94_1
                      try clear hcz96_0
                      try clear hcz96_1
                      try clear hcz96_2
                      try clear hcz99_0
                      try clear hcz99_1
                      try clear hfz101_0
                      try clear hfz101_1
                      try clear hfz101_2
                      try clear hfz105_0
                      try clear hfz105_1
                      try clear hfz109_0
                      try clear hfz109_1
                      try clear hfz10_0
                      try clear hfz10_1
                      try clear hfz10_2
                      try clear hfz10_3
                      try clear hfz111_0
                      try clear hfz111_1
                      try clear hfz111_2
                      try clear hfz114_0
                      try clear hfz114_1
                      try clear hfz116_0
                      try clear hfz116_1
                      try clear hfz116_2
                      try clear hfz12_0
                      try clear hfz12_1
                      try clear hfz12_2
                      try clear hfz12_3
                      try clear hfz16_0
                      try clear hfz16_1
                      try clear hfz16_2
                      try clear hfz16_3
                      try clear hfz25_0
                      try clear hfz25_1
                      try clear hfz25_2
                      try clear hfz29_0
                      try clear hfz29_1
                      try clear hfz34_0
                      try clear hfz34_1
                      try clear hfz38_0
                      try clear hfz38_1
                      try clear hfz43_0
                      try clear hfz43_1
                      try clear hfz47_0
                      try clear hfz47_1
                      try clear hfz51_0
                      try clear hfz51_1
                      try clear hfz55_0
                      try clear hfz55_1
                      try clear hfz57_0
                      try clear hfz57_1
                      try clear hfz57_2
                      try clear hfz60_0
                      try clear hfz60_1
                      try clear hfz62_0
                      try clear hfz62_1
                      try clear hfz62_2
                      try clear hfz66_0
                      try clear hfz66_1
                      try clear hfz70_0
                      try clear hfz70_1
                      try clear hfz72_0
                      try clear hfz72_1
                      try clear hfz72_2
                      try clear hfz75_0
                      try clear hfz75_1
                      try clear hfz77_0
                      try clear hfz77_1
                      try clear hfz77_2
                      try clear hfz82_0
                      try clear hfz82_1
                      try clear hfz86_0
                      try clear hfz86_1
                      try clear hfz90_0
                      try clear hfz90_1
                      try clear hfz94_0
                      try clear hfz94_1
                      try clear hfz96_0
                      try clear hfz96_1
                      try clear hfz96_2
                      try clear hfz99_0
                      try clear hfz99_1
                      try clear hx305_0
                      try clear hx305_1
                      try clear hx305_2
                      try clear p2
                      try clear p305
                      try clear p6
                      try clear q305
                      obtain ⟨kq, x83_21, rfl, HA, HJ21, HO_21, BK299, BK306, BK307, HB⟩ := hcut
                      cases kq with
                      | zero => exact absurd HA.out (by simp [pointillistlaw16_CellSums.j2])
                      | succ kj21 =>
                        have H := HA.out
                        clear HA
                        simp only [pointillistlaw16_CellSums.j2] at H
                        by_cases c117 : x83_21 = true
                        · subst c117
                          have H1 : (some false) = some r := by rw [if_pos rfl] at H; exact H
                          clear H
                          have H := H1
                          clear H1
                          obtain rfl := Option.some.inj H
                          go_wp2
                          go_ret
                          exact ⟨by first | rfl | (simp [errW_none, errW_some] <;> rfl) | (simp [*, errW_none, errW_some] <;> rfl), by repeat (first | (with_reducible first | exact HB.out | apply below_alloc | apply pw_below_drewN | apply below_drew1 | refine below_set ?_ GE299.out | refine below_set ?_ GE306.out | refine below_set ?_ GE307.out) | exact HB.out)⟩
                        · replace c117 := Bool.eq_false_iff.mpr c117
                          subst c117
                          have H1 : ((cell_Weight.f ((rd_T58 t302 x23_2).f1.f0) ((rd_T58 t302 x23_2).f1.f1)).bind fun t308 => (if t308 = (wrap64 ((wrap64 (((rd_T58 t302 x23_2).f1.f0) * 131072)) - ((rd_T58 t302 x23_2).f1.f1))) then (pointillistlaw16_CellSums.l0 kj21 a1 (wrap64 (x5_2 + ((rd_T58 t302 x23_2).f1.f0))) t302 (t302.length : Int) (wrap64 (x23_2 + 1)) a0_0 a0_1 a0_2 a0_3) else (some false))) = some r := by rw [if_neg (show ¬ (false = true) by decide)] at H; exact H
                          clear H
                          have H := H1
                          clear H1
                          replace H := Option.bind_eq_some_iff.mp H
                          obtain ⟨t308, A1180, H⟩ := H
                          replace H : (if t308 = (wrap64 ((wrap64 (((rd_T58 t302 x23_2).f1.f0) * 131072)) - ((rd_T58 t302 x23_2).f1.f1))) then (pointillistlaw16_CellSums.l0 kj21 a1 (wrap64 (x5_2 + ((rd_T58 t302 x23_2).f1.f0))) t302 (t302.length : Int) (wrap64 (x23_2 + 1)) a0_0 a0_1 a0_2 a0_3) else (some false)) = some r := H
                          have A118 := Aside0.mk A1180
                          clear A1180
                          by_cases c119 : t308 = (wrap64 ((wrap64 (((rd_T58 t302 x23_2).f1.f0) * 131072)) - ((rd_T58 t302 x23_2).f1.f1)))
                          · rw [if_pos c119] at H
                            have c119b0 : (t308 == (wrap64 ((wrap64 (((rd_T58 t302 x23_2).f1.f0) * 131072)) - ((rd_T58 t302 x23_2).f1.f1)))) = true := beq_iff_eq.mpr c119
                            have c119b1 : (t308 != (wrap64 ((wrap64 (((rd_T58 t302 x23_2).f1.f0) * 131072)) - ((rd_T58 t302 x23_2).f1.f1)))) = false := bne_eq_false_iff_eq.mpr c119
                            clear c119
                            have H' := Aside0.mk H
                            clear H
                            try go_wp2
                            have n0_ := Aside0.mk (Kd.R_drew HO_21.out)
                            have n1_ := Aside0.mk (blk_drew BK299.out)
                            have n2_ := Aside0.mk (blk_drew BK306.out)
                            have n3_ := Aside0.mk (blk_drew BK307.out)
                            have n4_ := Aside0.mk (below_drew1 HB.out)
                            clear HO_21
                            clear BK299
                            clear BK306
                            clear BK307
                            clear HB
                            have HO_21 := n0_
                            have BK299 := n1_
                            have BK306 := n2_
                            have BK307 := n3_
                            have HB := n4_
                            clear n0_ n1_ n2_ n3_ n4_
                            refine start_ (n := 9) (S := fun w' => w'.cell? ⟨gb307, 0, none⟩ = some (.int .i64 ((rd_T58 t302 x23_2).f1.f0)) ∧ w'.cell? ⟨gb307, 1, none⟩ = some (.int .i64 ((rd_T58 t302 x23_2).f1.f1))) (ds := []) #[false, false, false, false, false, false, false, false, false] (by kernel_rfl) rfl rfl ⟨(blk_cell BK307.out 0).trans rfl, (blk_cell BK307.out 1).trans rfl⟩ (fun hHeld => ?_); refine with_tabW pointillistlaw16_CellSums.tab13 pointillistlaw16_CellSums.bits13 (fun HT_ HW_ => ?_)
                            generalize wc.drew = w120 at HO_21 BK299 BK306 BK307 HB hHeld ⊢
                            refine pure_ (i := 2) (N := some 86) (v := ?_) (a' := ?_) #[false, false, true, false, false, false, false, false, false] rfl rfl (any_of HT_.out (by kernel_rfl)) (fun _ _ _ h => h) (Or.inl ⟨by rfl, ?_⟩) ?_ ?_
                            rotate_left
                            · intro w'
                              go_simp
                              with_reducible rfl
                            rotate_left
                            · simp only [Act.put, List.setIfInBounds_toArray, List.set_cons_zero, List.set_cons_succ, i64_w, i32_w]
                              rfl
                            refine pure_ (i := 5) (N := some 89) (v := ?_) (a' := ?_) #[false, false, true, false, false, true, false, false, false] rfl rfl (any_of HT_.out (by kernel_rfl)) (fun _ _ _ h => h) (Or.inl ⟨by rfl, ?_⟩) ?_ ?_
                            rotate_left
                            · intro w'
                              go_simp
                              with_reducible rfl
                            rotate_left
                            · simp only [Act.put, List.setIfInBounds_toArray, List.set_cons_zero, List.set_cons_succ, i64_w, i32_w]
                              rfl
                            refine take_ (i := 0) (N := some 84) (v := ?_) (a' := ?_) #[true, false, true, false, false, true, false, false, false] rfl rfl (take_ofW HT_.out HW_.out (by kernel_rfl)) (fun _ _ _ h => h) (Or.inl ⟨by rfl, ?_⟩) hHeld ?_ ?_
                            rotate_left
                            · rintro w' ⟨s0, s1⟩
                              go_simp
                              with_reducible rfl
                            rotate_left
                            · simp only [Act.put, List.setIfInBounds_toArray, List.set_cons_zero, List.set_cons_succ, i64_w, i32_w]
                              rfl
                            refine take_ (i := 3) (N := some 87) (v := ?_) (a' := ?_) #[true, false, true, true, false, true, false, false, false] rfl rfl (take_ofW HT_.out HW_.out (by kernel_rfl)) (fun _ _ _ h => h) (Or.inl ⟨by rfl, ?_⟩) hHeld ?_ ?_
                            rotate_left
                            · rintro w' ⟨s0, s1⟩
                              go_simp
                              with_reducible rfl
                            rotate_left
                            · simp only [Act.put, List.setIfInBounds_toArray, List.set_cons_zero, List.set_cons_succ, i64_w, i32_w]
                              rfl
                            refine pure_ (i := 4) (N := some 88) (v := ?_) (a' := ?_) #[true, false, true, true, true, true, false, false, false] rfl rfl (any_of HT_.out (by kernel_rfl)) (fun _ _ _ h => h) (Or.inl ⟨by rfl, ?_⟩) ?_ ?_
                            rotate_left
                            · intro w'
                              go_simp
                              with_reducible rfl
                            rotate_left
                            · simp only [Act.put, List.setIfInBounds_toArray, List.set_cons_zero, List.set_cons_succ, i64_w, i32_w]
                              rfl
                            refine take_ (i := 6) (N := some 90) (v := ?_) (a' := ?_) #[true, false, true, true, true, true, true, false, false] rfl rfl (take_ofW HT_.out HW_.out (by kernel_rfl)) (fun _ _ _ h => h) (Or.inl ⟨by rfl, ?_⟩) hHeld ?_ ?_
                            rotate_left
                            · rintro w' ⟨s0, s1⟩
                              go_simp
                              with_reducible rfl
                            rotate_left
                            · simp only [Act.put, List.setIfInBounds_toArray, List.set_cons_zero, List.set_cons_succ, i64_w, i32_w]
                              rfl
                            refine pure_ (i := 7) (N := some 91) (v := ?_) (a' := ?_) #[true, false, true, true, true, true, true, true, false] rfl rfl (any_of HT_.out (by kernel_rfl)) (fun _ _ _ h => h) (Or.inl ⟨by rfl, ?_⟩) ?_ ?_
                            rotate_left
                            · intro w'
                              go_simp
                              with_reducible rfl
                            rotate_left
                            · simp only [Act.put, List.setIfInBounds_toArray, List.set_cons_zero, List.set_cons_succ, i64_w, i32_w]
                              rfl
                            refine one_ (i := 1) (N := some 85) #[true, true, true, true, true, true, true, true, false] rfl rfl (one_of HT_.out (by kernel_rfl)) (by decide) (fun K hK => ?_)
                            refine goes_ Try.func28 (by kernel_rfl) rfl #[.agg #[.int .i64 ((rd_T58 t302 x23_2).f1.f0), .int .i64 ((rd_T58 t302 x23_2).f1.f1)]] (by rfl) rfl rfl (by (try simp only [List.map_toArray, List.map_cons, List.map_nil]); first | done | rfl | (simp only [List.length_drop, List.length_take]; rfl)) ?_
                            with_reducible refine (cell_Weight.calls ((rd_T58 t302 x23_2).f1.f0) ((rd_T58 t302 x23_2).f1.f1) t308 _ A118.out).mono ?_
                            rintro e w121 ⟨rfl, hb⟩
                            refine ⟨_, rfl, ?_⟩
                            have n0_ := Aside0.mk (Kd.R_below (by (with_reducible repeat (first | apply Kd.R_alloc | apply Kd.R_drewN | apply Kd.R_drew)); exact HO_21.out) hb)
                            have n1_ := Aside0.mk (blk_below (g := gb299) (o := .cells #[.int .i64 a0_0, .int .i64 a0_1, .int .i64 a0_2, .int .i64 a0_3] 32 (0, 0)) (by (with_reducible repeat (first | refine blk_drewN ?_ _ | refine blk_drew ?_ | refine blk_alloc ?_ _)); exact BK299.out) hb)
                            have n2_ := Aside0.mk (blk_below (g := gb306) (o := .cells #[.int .i64 ((rd_T58 t302 x23_2).f0), .int .i64 ((rd_T58 t302 x23_2).f1.f0), .int .i64 ((rd_T58 t302 x23_2).f1.f1)] 58 (0, 0)) (by (with_reducible repeat (first | refine blk_drewN ?_ _ | refine blk_drew ?_ | refine blk_alloc ?_ _)); exact BK306.out) hb)
                            have n3_ := Aside0.mk (blk_below (g := gb307) (o := .cells #[.int .i64 ((rd_T58 t302 x23_2).f1.f0), .int .i64 ((rd_T58 t302 x23_2).f1.f1)] 56 (0, 0)) (by (with_reducible repeat (first | refine blk_drewN ?_ _ | refine blk_drew ?_ | refine blk_alloc ?_ _)); exact BK307.out) hb)
                            have n4_ := Aside0.mk (below_step (by repeat (first | (with_reducible first | exact HB.out | apply below_alloc | apply pw_below_drewN | apply below_drew1 | refine below_set ?_ GE299.out | refine below_set ?_ GE306.out | refine below_set ?_ GE307.out) | exact HB.out)) hb)
                            clear HO_21
                            clear BK299
                            clear BK306
                            clear BK307
                            clear HB
                            have HO_21 := n0_
                            have BK299 := n1_
                            have BK306 := n2_
                            have BK307 := n3_
                            have HB := n4_
                            clear n0_ n1_ n2_ n3_ n4_
                            (try clear hb)
                            (try clear hb2)
                            (try clear hk)
                            (try clear hi)
                            refine hK.out _ _ ⟨(blk_cell BK307.out 0).trans rfl, (blk_cell BK307.out 1).trans rfl⟩ (fun hHeld => ?_)
                            clear hK K
                            refine norm_ (a' := ?_) ?_ ?_
                            rotate_left
                            · show Act.put _ (some 85) _ = _
                              simp only [Act.put, List.setIfInBounds_toArray, List.set_cons_zero, List.set_cons_succ, i64_w, i32_w]
                              rfl
                            refine pure_ (i := 8) (N := some 92) (v := ?_) (a' := ?_) #[true, true, true, true, true, true, true, true, true] rfl rfl (any_of HT_.out (by kernel_rfl)) (fun _ _ _ h => h) (Or.inl ⟨by rfl, ?_⟩) ?_ ?_
                            rotate_left
                            · intro w'
                              go_simp
                              with_reducible rfl
                            rotate_left
                            · simp only [Act.put, List.setIfInBounds_toArray, List.set_cons_zero, List.set_cons_succ, i64_w, i32_w]
                              rfl
                            refine done_ (done_of HT_.out (by kernel_rfl)) ?_
                            try go_wp2
                            go_roundg kj21
                            case measure => have := HJ4.out; have := HK2.out; have := HJ21.out; omega
                            case rel => exact ⟨((wrap64 (x5_2 + ((rd_T58 t302 x23_2).f1.f0)))), (wrap64 (x23_2 + 1)), (by first | rfl | (simp; done) | (simp [*]; done)), (by first | rfl | (simp; done) | (simp [*]; done)), H', ⟨by have := HJ4.out; have := HK2.out; have := HJ21.out; omega⟩, ⟨by (with_reducible repeat (first | apply Kd.R_alloc | apply Kd.R_drewN | apply Kd.R_drew)); exact Kd.R_mono HO_21.out (fun _ hk => trivial)⟩, ⟨by (with_reducible repeat (first | refine blk_drewN ?_ _ | refine blk_drew ?_ | refine blk_alloc ?_ _)); exact BK299.out⟩, ⟨by repeat (first | (with_reducible first | exact HB.out | apply below_alloc | apply pw_below_drewN | apply below_drew1 | refine below_set ?_ GE299.out | refine below_set ?_ GE306.out | refine below_set ?_ GE307.out) | exact HB.out)⟩⟩
                          · rw [if_neg c119] at H
                            have c119b0 : (t308 == (wrap64 ((wrap64 (((rd_T58 t302 x23_2).f1.f0) * 131072)) - ((rd_T58 t302 x23_2).f1.f1)))) = false := beq_eq_false_iff_ne.mpr c119
                            have c119b1 : (t308 != (wrap64 ((wrap64 (((rd_T58 t302 x23_2).f1.f0) * 131072)) - ((rd_T58 t302 x23_2).f1.f1)))) = true := bne_iff_ne.mpr c119
                            obtain rfl := Option.some.inj H
                            try go_wp2
                            have n0_ := Aside0.mk (Kd.R_drew HO_21.out)
                            have n1_ := Aside0.mk (blk_drew BK299.out)
                            have n2_ := Aside0.mk (blk_drew BK306.out)
                            have n3_ := Aside0.mk (blk_drew BK307.out)
                            have n4_ := Aside0.mk (below_drew1 HB.out)
                            clear HO_21
                            clear BK299
                            clear BK306
                            clear BK307
                            clear HB
                            have HO_21 := n0_
                            have BK299 := n1_
                            have BK306 := n2_
                            have BK307 := n3_
                            have HB := n4_
                            clear n0_ n1_ n2_ n3_ n4_
                            refine start_ (n := 9) (S := fun w' => w'.cell? ⟨gb307, 0, none⟩ = some (.int .i64 ((rd_T58 t302 x23_2).f1.f0)) ∧ w'.cell? ⟨gb307, 1, none⟩ = some (.int .i64 ((rd_T58 t302 x23_2).f1.f1))) (ds := []) #[false, false, false, false, false, false, false, false, false] (by kernel_rfl) rfl rfl ⟨(blk_cell BK307.out 0).trans rfl, (blk_cell BK307.out 1).trans rfl⟩ (fun hHeld => ?_); refine with_tabW pointillistlaw16_CellSums.tab13 pointillistlaw16_CellSums.bits13 (fun HT_ HW_ => ?_)
                            generalize wc.drew = w122 at HO_21 BK299 BK306 BK307 HB hHeld ⊢
                            refine pure_ (i := 2) (N := some 86) (v := ?_) (a' := ?_) #[false, false, true, false, false, false, false, false, false] rfl rfl (any_of HT_.out (by kernel_rfl)) (fun _ _ _ h => h) (Or.inl ⟨by rfl, ?_⟩) ?_ ?_
                            rotate_left
                            · intro w'
                              go_simp
                              with_reducible rfl
                            rotate_left
                            · simp only [Act.put, List.setIfInBounds_toArray, List.set_cons_zero, List.set_cons_succ, i64_w, i32_w]
                              rfl
                            refine pure_ (i := 5) (N := some 89) (v := ?_) (a' := ?_) #[false, false, true, false, false, true, false, false, false] rfl rfl (any_of HT_.out (by kernel_rfl)) (fun _ _ _ h => h) (Or.inl ⟨by rfl, ?_⟩) ?_ ?_
                            rotate_left
                            · intro w'
                              go_simp
                              with_reducible rfl
                            rotate_left
                            · simp only [Act.put, List.setIfInBounds_toArray, List.set_cons_zero, List.set_cons_succ, i64_w, i32_w]
                              rfl
                            refine take_ (i := 0) (N := some 84) (v := ?_) (a' := ?_) #[true, false, true, false, false, true, false, false, false] rfl rfl (take_ofW HT_.out HW_.out (by kernel_rfl)) (fun _ _ _ h => h) (Or.inl ⟨by rfl, ?_⟩) hHeld ?_ ?_
                            rotate_left
                            · rintro w' ⟨s0, s1⟩
                              go_simp
                              with_reducible rfl
                            rotate_left
                            · simp only [Act.put, List.setIfInBounds_toArray, List.set_cons_zero, List.set_cons_succ, i64_w, i32_w]
                              rfl
                            refine take_ (i := 3) (N := some 87) (v := ?_) (a' := ?_) #[true, false, true, true, false, true, false, false, false] rfl rfl (take_ofW HT_.out HW_.out (by kernel_rfl)) (fun _ _ _ h => h) (Or.inl ⟨by rfl, ?_⟩) hHeld ?_ ?_
                            rotate_left
                            · rintro w' ⟨s0, s1⟩
                              go_simp
                              with_reducible rfl
                            rotate_left
                            · simp only [Act.put, List.setIfInBounds_toArray, List.set_cons_zero, List.set_cons_succ, i64_w, i32_w]
                              rfl
                            refine pure_ (i := 4) (N := some 88) (v := ?_) (a' := ?_) #[true, false, true, true, true, true, false, false, false] rfl rfl (any_of HT_.out (by kernel_rfl)) (fun _ _ _ h => h) (Or.inl ⟨by rfl, ?_⟩) ?_ ?_
                            rotate_left
                            · intro w'
                              go_simp
                              with_reducible rfl
                            rotate_left
                            · simp only [Act.put, List.setIfInBounds_toArray, List.set_cons_zero, List.set_cons_succ, i64_w, i32_w]
                              rfl
                            refine take_ (i := 6) (N := some 90) (v := ?_) (a' := ?_) #[true, false, true, true, true, true, true, false, false] rfl rfl (take_ofW HT_.out HW_.out (by kernel_rfl)) (fun _ _ _ h => h) (Or.inl ⟨by rfl, ?_⟩) hHeld ?_ ?_
                            rotate_left
                            · rintro w' ⟨s0, s1⟩
                              go_simp
                              with_reducible rfl
                            rotate_left
                            · simp only [Act.put, List.setIfInBounds_toArray, List.set_cons_zero, List.set_cons_succ, i64_w, i32_w]
                              rfl
                            refine pure_ (i := 7) (N := some 91) (v := ?_) (a' := ?_) #[true, false, true, true, true, true, true, true, false] rfl rfl (any_of HT_.out (by kernel_rfl)) (fun _ _ _ h => h) (Or.inl ⟨by rfl, ?_⟩) ?_ ?_
                            rotate_left
                            · intro w'
                              go_simp
                              with_reducible rfl
                            rotate_left
                            · simp only [Act.put, List.setIfInBounds_toArray, List.set_cons_zero, List.set_cons_succ, i64_w, i32_w]
                              rfl
                            refine one_ (i := 1) (N := some 85) #[true, true, true, true, true, true, true, true, false] rfl rfl (one_of HT_.out (by kernel_rfl)) (by decide) (fun K hK => ?_)
                            refine goes_ Try.func28 (by kernel_rfl) rfl #[.agg #[.int .i64 ((rd_T58 t302 x23_2).f1.f0), .int .i64 ((rd_T58 t302 x23_2).f1.f1)]] (by rfl) rfl rfl (by (try simp only [List.map_toArray, List.map_cons, List.map_nil]); first | done | rfl | (simp only [List.length_drop, List.length_take]; rfl)) ?_
                            with_reducible refine (cell_Weight.calls ((rd_T58 t302 x23_2).f1.f0) ((rd_T58 t302 x23_2).f1.f1) t308 _ A118.out).mono ?_
                            rintro e w123 ⟨rfl, hb⟩
                            refine ⟨_, rfl, ?_⟩
                            have n0_ := Aside0.mk (Kd.R_below (by (with_reducible repeat (first | apply Kd.R_alloc | apply Kd.R_drewN | apply Kd.R_drew)); exact HO_21.out) hb)
                            have n1_ := Aside0.mk (blk_below (g := gb299) (o := .cells #[.int .i64 a0_0, .int .i64 a0_1, .int .i64 a0_2, .int .i64 a0_3] 32 (0, 0)) (by (with_reducible repeat (first | refine blk_drewN ?_ _ | refine blk_drew ?_ | refine blk_alloc ?_ _)); exact BK299.out) hb)
                            have n2_ := Aside0.mk (blk_below (g := gb306) (o := .cells #[.int .i64 ((rd_T58 t302 x23_2).f0), .int .i64 ((rd_T58 t302 x23_2).f1.f0), .int .i64 ((rd_T58 t302 x23_2).f1.f1)] 58 (0, 0)) (by (with_reducible repeat (first | refine blk_drewN ?_ _ | refine blk_drew ?_ | refine blk_alloc ?_ _)); exact BK306.out) hb)
                            have n3_ := Aside0.mk (blk_below (g := gb307) (o := .cells #[.int .i64 ((rd_T58 t302 x23_2).f1.f0), .int .i64 ((rd_T58 t302 x23_2).f1.f1)] 56 (0, 0)) (by (with_reducible repeat (first | refine blk_drewN ?_ _ | refine blk_drew ?_ | refine blk_alloc ?_ _)); exact BK307.out) hb)
                            have n4_ := Aside0.mk (below_step (by repeat (first | (with_reducible first | exact HB.out | apply below_alloc | apply pw_below_drewN | apply below_drew1 | refine below_set ?_ GE299.out | refine below_set ?_ GE306.out | refine below_set ?_ GE307.out) | exact HB.out)) hb)
                            clear HO_21
                            clear BK299
                            clear BK306
                            clear BK307
                            clear HB
                            have HO_21 := n0_
                            have BK299 := n1_
                            have BK306 := n2_
                            have BK307 := n3_
                            have HB := n4_
                            clear n0_ n1_ n2_ n3_ n4_
                            (try clear hb)
                            (try clear hb2)
                            (try clear hk)
                            (try clear hi)
                            refine hK.out _ _ ⟨(blk_cell BK307.out 0).trans rfl, (blk_cell BK307.out 1).trans rfl⟩ (fun hHeld => ?_)
                            clear hK K
                            refine norm_ (a' := ?_) ?_ ?_
                            rotate_left
                            · show Act.put _ (some 85) _ = _
                              simp only [Act.put, List.setIfInBounds_toArray, List.set_cons_zero, List.set_cons_succ, i64_w, i32_w]
                              rfl
                            refine pure_ (i := 8) (N := some 92) (v := ?_) (a' := ?_) #[true, true, true, true, true, true, true, true, true] rfl rfl (any_of HT_.out (by kernel_rfl)) (fun _ _ _ h => h) (Or.inl ⟨by rfl, ?_⟩) ?_ ?_
                            rotate_left
                            · intro w'
                              go_simp
                              with_reducible rfl
                            rotate_left
                            · simp only [Act.put, List.setIfInBounds_toArray, List.set_cons_zero, List.set_cons_succ, i64_w, i32_w]
                              rfl
                            refine done_ (done_of HT_.out (by kernel_rfl)) ?_
                            try go_wp2
                            go_ret
                            exact ⟨by first | rfl | (simp [errW_none, errW_some] <;> rfl) | (simp [*, errW_none, errW_some] <;> rfl), by repeat (first | (with_reducible first | exact HB.out | apply below_alloc | apply pw_below_drewN | apply below_drew1 | refine below_set ?_ GE299.out | refine below_set ?_ GE306.out | refine below_set ?_ GE307.out) | exact HB.out)⟩
                  · rw [if_neg c21] at H
                    exact absurd H (by simp)
                · rw [if_neg c20] at H
                  exact absurd H (by simp)
              · rw [if_neg c19] at H
                have c19b0 : decide (x23_2 < (t302.length : Int)) = false := decide_eq_false c19
                clear c19
                obtain ⟨ji124, hji124⟩ : ∃ j_ : Int, (mx a0_0 a0_2) = j_ := ⟨_, rfl⟩
                replace H : (if (ji124) < (wrap64 ((wrap64 (a1)) * 65536)) then (some (x5_2 == (wrap64 (a0_3 - a0_1)))) else (if (mn a0_0 a0_2) < (wrap64 ((wrap64 (a1)) * 65536)) then (some true) else (some (x5_2 == 0)))) = some r := by first | (rw [hji124] at H; exact H) | (simp only [hji124] at H ⊢; exact H)
                have hji124_ : (if a0_0 < a0_2 then a0_2 else a0_0) = ji124 := hji124
                by_cases c125 : (ji124) < (wrap64 ((wrap64 (a1)) * 65536))
                · rw [if_pos c125] at H
                  have c125b0 : decide ((ji124) < (wrap64 ((wrap64 (a1)) * 65536))) = true := decide_eq_true c125
                  clear c125
                  obtain rfl := Option.some.inj H
                  have hcz126_0 : wr.cell? ⟨gb299, 0, none⟩ = some (.int .i64 a0_0) := (blk_cell BK299.out 0).trans rfl
                  have hcz126_1 : wr.cell? ⟨gb299, 1, none⟩ = some (.int .i64 a0_1) := (blk_cell BK299.out 1).trans rfl
                  have hcz126_2 : wr.cell? ⟨gb299, 2, none⟩ = some (.int .i64 a0_2) := (blk_cell BK299.out 2).trans rfl
                  have hcz126_3 : wr.cell? ⟨gb299, 3, none⟩ = some (.int .i64 a0_3) := (blk_cell BK299.out 3).trans rfl
                  have hfz126_0 := blk_frozen BK299.out 0
                  have hfz126_1 := blk_frozen BK299.out 1
                  have hfz126_2 := blk_frozen BK299.out 2
                  have hfz126_3 := blk_frozen BK299.out 3
                  go_wp2
                  go_ret
                  exact ⟨by first | rfl | (simp [errW_none, errW_some] <;> rfl) | (simp only [← hji124]; first | rfl | (simp [errW_none, errW_some] <;> rfl)) | (simp [*, errW_none, errW_some] <;> rfl), by repeat (first | (with_reducible first | exact HB.out | apply below_alloc | apply pw_below_drewN | apply below_drew1 | refine below_set ?_ GE299.out) | exact HB.out)⟩
                · rw [if_neg c125] at H
                  have c125b0 : decide ((ji124) < (wrap64 ((wrap64 (a1)) * 65536))) = false := decide_eq_false c125
                  clear c125
                  obtain ⟨ji127, hji127⟩ : ∃ j_ : Int, (mn a0_0 a0_2) = j_ := ⟨_, rfl⟩
                  replace H : (if (ji127) < (wrap64 ((wrap64 (a1)) * 65536)) then (some true) else (some (x5_2 == 0))) = some r := by first | (rw [hji127] at H; exact H) | (simp only [hji127] at H ⊢; exact H)
                  have hji127_ : (if a0_2 < a0_0 then a0_2 else a0_0) = ji127 := hji127
                  by_cases c128 : (ji127) < (wrap64 ((wrap64 (a1)) * 65536))
                  · rw [if_pos c128] at H
                    have c128b0 : decide ((ji127) < (wrap64 ((wrap64 (a1)) * 65536))) = true := decide_eq_true c128
                    clear c128
                    obtain rfl := Option.some.inj H
                    have hcz129_0 : wr.cell? ⟨gb299, 0, none⟩ = some (.int .i64 a0_0) := (blk_cell BK299.out 0).trans rfl
                    have hcz129_1 : wr.cell? ⟨gb299, 1, none⟩ = some (.int .i64 a0_1) := (blk_cell BK299.out 1).trans rfl
                    have hcz129_2 : wr.cell? ⟨gb299, 2, none⟩ = some (.int .i64 a0_2) := (blk_cell BK299.out 2).trans rfl
                    have hcz129_3 : wr.cell? ⟨gb299, 3, none⟩ = some (.int .i64 a0_3) := (blk_cell BK299.out 3).trans rfl
                    have hfz129_0 := blk_frozen BK299.out 0
                    have hfz129_1 := blk_frozen BK299.out 1
                    have hfz129_2 := blk_frozen BK299.out 2
                    have hfz129_3 := blk_frozen BK299.out 3
                    go_wp2
                    go_ret
                    exact ⟨by first | rfl | (simp [errW_none, errW_some] <;> rfl) | (simp only [← hji124, ← hji127]; first | rfl | (simp [errW_none, errW_some] <;> rfl)) | (simp [*, errW_none, errW_some] <;> rfl), by repeat (first | (with_reducible first | exact HB.out | apply below_alloc | apply pw_below_drewN | apply below_drew1 | refine below_set ?_ GE299.out) | exact HB.out)⟩
                  · rw [if_neg c128] at H
                    have c128b0 : decide ((ji127) < (wrap64 ((wrap64 (a1)) * 65536))) = false := decide_eq_false c128
                    clear c128
                    obtain rfl := Option.some.inj H
                    have hcz130_0 : wr.cell? ⟨gb299, 0, none⟩ = some (.int .i64 a0_0) := (blk_cell BK299.out 0).trans rfl
                    have hcz130_1 : wr.cell? ⟨gb299, 1, none⟩ = some (.int .i64 a0_1) := (blk_cell BK299.out 1).trans rfl
                    have hcz130_2 : wr.cell? ⟨gb299, 2, none⟩ = some (.int .i64 a0_2) := (blk_cell BK299.out 2).trans rfl
                    have hcz130_3 : wr.cell? ⟨gb299, 3, none⟩ = some (.int .i64 a0_3) := (blk_cell BK299.out 3).trans rfl
                    have hfz130_0 := blk_frozen BK299.out 0
                    have hfz130_1 := blk_frozen BK299.out 1
                    have hfz130_2 := blk_frozen BK299.out 2
                    have hfz130_3 := blk_frozen BK299.out 3
                    go_wp2
                    go_ret
                    exact ⟨by first | rfl | (simp [errW_none, errW_some] <;> rfl) | (simp only [← hji124, ← hji127]; first | rfl | (simp [errW_none, errW_some] <;> rfl)) | (simp [*, errW_none, errW_some] <;> rfl), by repeat (first | (with_reducible first | exact HB.out | apply below_alloc | apply pw_below_drewN | apply below_drew1 | refine below_set ?_ GE299.out) | exact HB.out)⟩
  · replace c4 := Bool.eq_false_iff.mpr c4
    subst c4
    have H1 : (some false) = some r := by rw [if_neg (show ¬ (false = true) by decide)] at H; exact H
    clear H
    have H := H1
    clear H1
    obtain rfl := Option.some.inj H
    go_enter Try.func12, Try.ntmps12
    go_wp2_with (first | ((with_reducible refine gate_dst (N := 2) rfl ?_); refine box_event ?hg (N := 2) ?hd (cs := #[.int .i64 a0_0, .int .i64 a0_1, .int .i64 a0_2, .int .i64 a0_3]) (t := 32) ?hr ?_; (case hd => rfl); (case hg => rfl); (case hr => first | (go_simp; done) | (go_simp; rfl)); intro gb299 hg w131 hbox hb; have n0_ := Aside0.mk (below_step (by repeat (first | (with_reducible first | exact HB.out | apply below_alloc | apply pw_below_drewN | apply below_drew1) | exact HB.out)) hb); have n1_ := Aside0.mk (hbox); have n2_ := Aside0.mk ((by rw [hg]; exact (below_size (by repeat (first | (with_reducible first | exact HB.out | apply below_alloc | apply pw_below_drewN | apply below_drew1) | exact HB.out))) : w.heap.size ≤ gb299)); have n3_ := Aside0.mk ((by rw [hg]; exact (below_size (by repeat (first | (with_reducible first | exact HB.out | apply below_alloc | apply pw_below_drewN | apply below_drew1) | exact HB.out))) : w.heap.size ≤ gb299)); clear HB; have HB := n0_; have BK299 := n1_; have GW299 := n2_; have GE299 := n3_; clear n0_ n1_ n2_ n3_; clear hb hbox hg) | ((with_reducible refine gate_callee (f := 22) rfl ?_); refine goesL_ (some 9) rfl rfl Try.func22 (by kernel_rfl) rfl #[] rfl (by (try simp only [List.map_toArray, List.map_cons, List.map_nil]); first | done | rfl | (simp only [List.length_drop, List.length_take]; rfl)) ?_; (with_reducible refine (pointillistlaw16_wakes.calls  false _ A3.out).mono ?_); rintro e w132 ⟨rfl, hb⟩; refine ⟨_, rfl, ?_⟩; have n0_ := Aside0.mk (blk_below (g := gb299) (o := .cells #[.int .i64 a0_0, .int .i64 a0_1, .int .i64 a0_2, .int .i64 a0_3] 32 (0, 0)) (by (with_reducible repeat (first | refine blk_drewN ?_ _ | refine blk_drew ?_ | refine blk_alloc ?_ _)); exact BK299.out) hb); have n1_ := Aside0.mk (below_step (by repeat (first | (with_reducible first | exact HB.out | apply below_alloc | apply pw_below_drewN | apply below_drew1 | refine below_set ?_ GE299.out) | exact HB.out)) hb); clear BK299; clear HB; have BK299 := n0_; have HB := n1_; clear n0_ n1_; (try clear hb); (try clear hb2); (try clear hk); (try clear hi)))
    go_ret
    exact ⟨by first | rfl | (simp [errW_none, errW_some] <;> rfl) | (simp [*, errW_none, errW_some] <;> rfl), by repeat (first | (with_reducible first | exact HB.out | apply below_alloc | apply pw_below_drewN | apply below_drew1 | refine below_set ?_ GE299.out) | exact HB.out)⟩

end Go.Proofs.Ytjdpmaachehpnaa.PE
