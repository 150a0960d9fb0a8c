-- Printed by xprint.py, a program of this session: the kit's print, with own texts for some functions.
import Derived.Test.YtjdpmaachehpnaaPEx0
import Derived.Test.YtjdpmaachehpnaaPEx1
import Derived.Test.YtjdpmaachehpnaaTold
namespace Go.Proofs.Ytjdpmaachehpnaa.PE
open Go.RowKit Go.Proofs.YtjdpmaachehpnaaW.PrintWords Go.Proofs.YtjdpmaachehpnaaW.PrintLast Go.Proofs.YtjdpmaachehpnaaW.PrintMore
attribute [local go_sem] max2_int min2_int max_two min_two max_three min_three max_four min_four   -- for this text's walks alone
set_option linter.unusedVariables false
set_option linter.unusedSimpArgs false

attribute [local go_sem high] eqA34
/-! ### pointillistlaw15_wakes: function 13 -/
def pointillistlaw15_wakes.f  : Option (Bool) := (pointillistlaw15_told.f 0 0 131072 131072 9 9).bind fun t114 => (if (t114.length : Int) = 2 then (if 1 < (t114.length : Int) then (some (((rd_T34 t114 1).f0) == 1 && ((((rd_T34 t114 1).f1.f0) == 65536 && (((rd_T34 t114 1).f1.f1) == 0 && (((rd_T34 t114 1).f1.f2) == 131072 && (((rd_T34 t114 1).f1.f3) == 65536))))))) else (none)) else (some false))
set_option maxHeartbeats 8000000 in
set_option maxRecDepth 100000 in
theorem pointillistlaw15_wakes.calls  (r : Bool) (w : World) (h : pointillistlaw15_wakes.f  = some r) :
    Calls Try.prog 13 #[] w fun e w' => e = .returned (.bool r) ∧ Below w.heap.size w w' := by
  have hu23 := Try.underlying23
  have hu25 := Try.underlying25
  have hu34 := Try.underlying34
  have hu32 := Try.underlying32
  have HB := Aside0.mk (Below.refl w.heap.size w)
  have H : ((pointillistlaw15_told.f 0 0 131072 131072 9 9).bind fun t114 => (if (t114.length : Int) = 2 then (if 1 < (t114.length : Int) then (some (((rd_T34 t114 1).f0) == 1 && ((((rd_T34 t114 1).f1.f0) == 65536 && (((rd_T34 t114 1).f1.f1) == 0 && (((rd_T34 t114 1).f1.f2) == 131072 && (((rd_T34 t114 1).f1.f3) == 65536))))))) else (none)) else (some false))) = some r := h
  clear h
  replace H := Option.bind_eq_some_iff.mp H
  obtain ⟨t114, A10, H⟩ := H
  replace H : (if (t114.length : Int) = 2 then (if 1 < (t114.length : Int) then (some (((rd_T34 t114 1).f0) == 1 && ((((rd_T34 t114 1).f1.f0) == 65536 && (((rd_T34 t114 1).f1.f1) == 0 && (((rd_T34 t114 1).f1.f2) == 131072 && (((rd_T34 t114 1).f1.f3) == 65536))))))) else (none)) else (some false)) = some r := H
  have A1 := Aside0.mk A10
  clear A10
  by_cases c2 : (t114.length : Int) = 2
  · rw [if_pos c2] at H
    have c2b0 : ((t114.length : Int) == 2) = true := beq_iff_eq.mpr c2
    have c2b1 : ((t114.length : Int) != 2) = false := bne_eq_false_iff_eq.mpr c2
    clear c2
    by_cases c3 : 1 < (t114.length : Int)
    · rw [if_pos c3] at H
      have c3b0 : decide (1 < (t114.length : Int)) = true := decide_eq_true c3
      have c3b1 : decide (1 < t114.length) = true := decide_eq_true (by omega)
      clear c3
      obtain rfl := Option.some.inj H
      go_enter Try.func13, Try.ntmps13
      go_wp2_with (first | ((with_reducible refine gate_callee (f := 16) rfl ?_); refine goesL_ (some 4) rfl rfl Try.func16 (by kernel_rfl) rfl #[.agg #[.int .i64 0, .int .i64 0, .int .i64 131072, .int .i64 131072], .int .i64 9, .int .i64 9] rfl (by (try simp only [List.map_toArray, List.map_cons, List.map_nil]); first | done | rfl | (simp only [List.length_drop, List.length_take]; rfl)) ?_; (with_reducible refine (pointillistlaw15_told.calls 0 0 131072 131072 9 9 t114 _ A1.out).mono ?_); rintro e w4 ⟨v115, rfl, ho0, hb⟩; refine ⟨_, rfl, ?_⟩; have n0_ := Aside0.mk (Kd.R_lower ho0 (below_size (by repeat (first | (with_reducible first | exact HB.out | apply below_alloc | apply pw_below_drewN | apply below_drew1) | exact HB.out)))); have n1_ := Aside0.mk (below_step (by repeat (first | (with_reducible first | exact HB.out | apply below_alloc | apply pw_below_drewN | apply below_drew1) | exact HB.out)) hb); clear HB; have HO116 := n0_; have HB := n1_; clear n0_ n1_; (try clear hb); (try clear hb2); (try clear hk); (try clear hi); (try clear ho0); obtain ⟨Ao5, co5, eo5⟩ := Kd.R_slice HO116.out; subst eo5; have p117 : 0 ≤ (1 : Int) := (by omega); have q117 : 1 < (t114.length : Int) := of_decide_eq_true (by first | (with_reducible assumption) | assumption); obtain ⟨ad117, e117, hx117_0, hx117_1, hx117_2, hx117_3, hx117_4⟩ := at_T34 (Kd.R_reads' HO116.out).2.2 1 p117 q117; cases e117; (try simp only [show (1 : Int).toNat = 1 from rfl, Nat.reduceMul, Nat.reduceEqDiff, Go.Addr.add, ↓reduceIte] at hx117_0); (try simp only [show (1 : Int).toNat = 1 from rfl, Nat.reduceMul, Nat.reduceEqDiff, Go.Addr.add, ↓reduceIte] at hx117_1); (try simp only [show (1 : Int).toNat = 1 from rfl, Nat.reduceMul, Nat.reduceEqDiff, Go.Addr.add, ↓reduceIte] at hx117_2); (try simp only [show (1 : Int).toNat = 1 from rfl, Nat.reduceMul, Nat.reduceEqDiff, Go.Addr.add, ↓reduceIte] at hx117_3); (try simp only [show (1 : Int).toNat = 1 from rfl, Nat.reduceMul, Nat.reduceEqDiff, Go.Addr.add, ↓reduceIte] at hx117_4); have qi117 : (1 < t114.length) = True := eq_true (by omega); (try rw [show ((1 : Int)).toNat = 1 from rfl] at hx117_0); (try rw [show 1 * 5 = 5 from rfl] at hx117_0); (try rw [show ((1 : Int)).toNat = 1 from rfl] at hx117_1); (try rw [show 1 * 5 = 5 from rfl] at hx117_1); (try rw [show ((1 : Int)).toNat = 1 from rfl] at hx117_2); (try rw [show 1 * 5 = 5 from rfl] at hx117_2); (try rw [show ((1 : Int)).toNat = 1 from rfl] at hx117_3); (try rw [show 1 * 5 = 5 from rfl] at hx117_3); (try rw [show ((1 : Int)).toNat = 1 from rfl] at hx117_4); (try rw [show 1 * 5 = 5 from rfl] at hx117_4); replace p117 := eq_true p117; replace q117 := eq_true q117))
      go_ret
      exact ⟨by first | rfl | (simp [errW_none, errW_some] <;> rfl) | (simp [*, errW_none, errW_some] <;> rfl), by repeat (first | (with_reducible first | exact HB.out | apply below_alloc | apply pw_below_drewN | apply below_drew1) | exact HB.out)⟩
    · rw [if_neg c3] at H
      exact absurd H (by simp)
  · rw [if_neg c2] at H
    have c2b0 : ((t114.length : Int) == 2) = false := beq_eq_false_iff_ne.mpr c2
    have c2b1 : ((t114.length : Int) != 2) = true := bne_iff_ne.mpr c2
    obtain rfl := Option.some.inj H
    go_enter Try.func13, Try.ntmps13
    go_wp2_with (first | ((with_reducible refine gate_callee (f := 16) rfl ?_); refine goesL_ (some 4) rfl rfl Try.func16 (by kernel_rfl) rfl #[.agg #[.int .i64 0, .int .i64 0, .int .i64 131072, .int .i64 131072], .int .i64 9, .int .i64 9] rfl (by (try simp only [List.map_toArray, List.map_cons, List.map_nil]); first | done | rfl | (simp only [List.length_drop, List.length_take]; rfl)) ?_; (with_reducible refine (pointillistlaw15_told.calls 0 0 131072 131072 9 9 t114 _ A1.out).mono ?_); rintro e w6 ⟨v115, rfl, ho0, hb⟩; refine ⟨_, rfl, ?_⟩; have n0_ := Aside0.mk (Kd.R_lower ho0 (below_size (by repeat (first | (with_reducible first | exact HB.out | apply below_alloc | apply pw_below_drewN | apply below_drew1) | exact HB.out)))); have n1_ := Aside0.mk (below_step (by repeat (first | (with_reducible first | exact HB.out | apply below_alloc | apply pw_below_drewN | apply below_drew1) | exact HB.out)) hb); clear HB; have HO116 := n0_; have HB := n1_; clear n0_ n1_; (try clear hb); (try clear hb2); (try clear hk); (try clear hi); (try clear ho0); obtain ⟨Ao7, co7, eo7⟩ := Kd.R_slice HO116.out; subst eo7))
    go_ret
    exact ⟨by first | rfl | (simp [errW_none, errW_some] <;> rfl) | (simp [*, errW_none, errW_some] <;> rfl), by repeat (first | (with_reducible first | exact HB.out | apply below_alloc | apply pw_below_drewN | apply below_drew1) | exact HB.out)⟩

/-- THE ONE PURE STATEMENT of pointillistlaw15_wakes: yours. -/
def pointillistlaw15_wakes.Pure : Prop := pointillistlaw15_wakes.f  = some true
theorem pointillistlaw15_wakes.walk (P : pointillistlaw15_wakes.Pure)  (w : World)  :
    Calls Try.prog 13 #[] w fun e w' => e = .returned (.bool true) ∧ Below w.heap.size w w' := by
  have h := P  
  refine (pointillistlaw15_wakes.calls  true w h).mono ?_
  rintro e w' ⟨rfl, hd⟩
  exact ⟨rfl, hd⟩

end Go.Proofs.Ytjdpmaachehpnaa.PE
