/- The document's roots of the halves (ref09's Half), walked. For all directions. -/
import Derived.Test.YtdhegcjclfllmaaEx2
import Derived.Test.YtdhegcjclfllmaaRt2
import Derived.Test.YtdhegcjclfllmaaRt1
import Derived.Lib.Hide
import Derived.Test.YtdhegcjclfllmaaPEx7
namespace Go.Proofs.Ytdhegcjclfllmaa.VecR
open Go Go.RowKit Go.Proofs.Ytdhegcjclfllmaa.PE Go.Proofs.YtdhegcjclfllmaaW.PrintWords Go.Proofs.YtdhegcjclfllmaaW.PrintLast Go.Proofs.YtdhegcjclfllmaaW.PrintMore
set_option maxRecDepth 100000
set_option linter.unusedVariables false
set_option linter.unusedSimpArgs false
theorem w64 {x : Int} (h0 : -9223372036854775808 ≤ x) (h1 : x ≤ 9223372036854775807) : wrap64 x = x := by unfold wrap64; omega
def cut (D : Int) : Int := if (if D > 1073741824 then 1073741824 else D) < -1073741824 then -1073741824 else if D > 1073741824 then 1073741824 else D
theorem cut_in (D : Int) : -1073741824 ≤ cut D ∧ cut D ≤ 1073741824 := by unfold cut; (repeat' split) <;> omega
def halfS (D : Int) : Int := Root.rootF ((1073741824 - cut D) * 536870912)
def halfC (D : Int) : Int := Root.rootF ((1073741824 + cut D) * 536870912)
theorem rootL_f {n : Int} (h0 : 0 ≤ n) (h1 : n ≤ 1152921504606846976) : Root.rootL n 0 64 = Root.rootF n ∧ 0 ≤ Root.rootF n ∧ Root.rootF n ≤ 4294967295 := by
  obtain ⟨a, _, _, b⟩ := Root.rootF_spec (N := n) h0 (by omega)
  exact ⟨(Root.isRoot_of h0 (by omega)).only (Root.isRoot_floor h0 (by omega)), a, b⟩
theorem dot_f (a b c d : Int) (ha : (-9223372036854775808 ≤ a ∧ a ≤ 9223372036854775807) ∧ (-9223372036854775808 ≤ b ∧ b ≤ 9223372036854775807) ∧ (-9223372036854775808 ≤ c ∧ c ≤ 9223372036854775807) ∧ (-9223372036854775808 ≤ d ∧ d ≤ 9223372036854775807)) : pointillistref09_Dot.f a b c d = some (Ref.doV a c b d 30) := by
  unfold pointillistref09_Dot.f pointillistref01_Dot.f
  rw [if_pos (by omega)]; rfl
set_option maxHeartbeats 4000000 in
theorem half_calls (a b c d : Int) (ha : (-9223372036854775808 ≤ a ∧ a ≤ 9223372036854775807) ∧ (-9223372036854775808 ≤ b ∧ b ≤ 9223372036854775807) ∧ (-9223372036854775808 ≤ c ∧ c ≤ 9223372036854775807) ∧ (-9223372036854775808 ≤ d ∧ d ≤ 9223372036854775807)) (w : World) :
    Calls Try.prog 38 #[.agg #[.int .i64 a, .int .i64 b], .agg #[.int .i64 c, .int .i64 d]] w fun e w' => e = .returned (.tuple #[.int .i64 (halfS (Ref.doV a c b d 30)), .int .i64 (halfC (Ref.doV a c b d 30))]) ∧ Below w.heap.size w w' := by
  have DT := Lib.hid (fun w => pointillistref09_Dot.calls a b c d _ w (dot_f a b c d ha))
  generalize Ref.doV a c b d 30 = D at *
  obtain ⟨C, hC⟩ : ∃ C, C = cut D := ⟨_, rfl⟩
  obtain ⟨c0, c1⟩ := cut_in D
  unfold halfS halfC
  rw [← hC] at c0 c1 ⊢
  obtain ⟨s0, s1, s2⟩ := rootL_f (n := (1073741824 - C) * 536870912) (by omega) (by omega)
  obtain ⟨t0, t1, t2⟩ := rootL_f (n := (1073741824 + C) * 536870912) (by omega) (by omega)
  have OS := Lib.hid (Ref.of_num ((1073741824 - C) * 536870912) (by omega) (by omega))
  have OC := Lib.hid (Ref.of_num ((1073741824 + C) * 536870912) (by omega) (by omega))
  have RS := Lib.hid (fun s A ps ca hs w hA ha => Ref.root2_calls s A ps ca ((1073741824 - C) * 536870912) hs (by omega) w hA ha)
  have RC := Lib.hid (fun s A ps ca hs w hA ha => Ref.root2_calls s A ps ca ((1073741824 + C) * 536870912) hs (by omega) w hA ha)
  rw [s0] at RS
  rw [t0] at RC
  clear s0 t0
  have n0 : 0 ≤ (1073741824 - C) * 536870912 := by omega
  have m0 : 0 ≤ (1073741824 + C) * 536870912 := by omega
  generalize Root.rootF ((1073741824 - C) * 536870912) = PS at *
  generalize Root.rootF ((1073741824 + C) * 536870912) = PC at *
  have N0 := Lib.hid n0
  have M0 := Lib.hid m0
  clear n0 m0
  have HB := Below.refl w.heap.size w
  have hD : (D > 1073741824 ∧ C = 1073741824) ∨ (D ≤ 1073741824 ∧ D < -1073741824 ∧ C = -1073741824) ∨ (D ≤ 1073741824 ∧ -1073741824 ≤ D ∧ D = C) := by unfold cut at hC; (repeat' split at hC) <;> omega
  clear hC
  rcases hD with ⟨d0, rfl⟩ | ⟨d0, d1, rfl⟩ | ⟨d0, d1, rfl⟩
  all_goals
    try simp only [show ((1073741824 : Int) - 1073741824) * 536870912 = 0 by decide, show ((1073741824 : Int) + 1073741824) * 536870912 = 1152921504606846976 by decide, show ((1073741824 : Int) - -1073741824) * 536870912 = 1152921504606846976 by decide, show ((1073741824 : Int) + -1073741824) * 536870912 = 0 by decide] at OS OC RS RC N0 M0
    go_enter Try.func38, Try.ntmps38
    go_wp2_with (first
      | ((go_at_call 39; ((with_reducible refine (DT.out _).mono ?_); rintro e w1 ⟨rfl, hb1⟩)))
      | (go_at_call 67; ((with_reducible refine (OS.out _).mono ?_); rintro e w3 h; obtain ⟨r3, C3, d3, c3, rfl, o3, e3⟩ := h.pos N0.out; clear OS; have hb3 := o3.bel))
      | (go_at_call 60; ((with_reducible refine (RS.out _ _ _ _ e3 _ o3.row o3.says).mono ?_); rintro e w4 ⟨rfl, hb4⟩; clear RS))
      | (go_at_call 67; ((with_reducible refine (OC.out _).mono ?_); rintro e w5 h; obtain ⟨r5, C5, d5, c5, rfl, o5, e5⟩ := h.pos M0.out; clear OC; have hb5 := o5.bel))
      | (go_at_call 60; ((with_reducible refine (RC.out _ _ _ _ e5 _ o5.row o5.says).mono ?_); rintro e w6 ⟨rfl, hb6⟩; clear RC)))
    refine bodyPost_ret (v := .tuple #[.int .i64 PS, .int .i64 PC]) (by simp [results, Try.results38, go_sem]) rfl ⟨rfl, by have z_hb1 := hb1.size; (try simp at z_hb1); have z_hb3 := hb3.size; (try simp at z_hb3); have z_hb4 := hb4.size; (try simp at z_hb4); have z_hb5 := hb5.size; (try simp at z_hb5); have z_hb6 := hb6.size; (try simp at z_hb6); (repeat' (first | (with_reducible exact Below.refl _ _) | (with_reducible refine Below.drew ?_) | (with_reducible refine below_drewN ?_ _) | ((with_reducible refine Below.setCell ?_ ?side_ _); case side_ => (first | (with_reducible exact Nat.le_refl _) | (with_reducible assumption) | omega | (simp; done) | (simp; omega))) | ((with_reducible refine Below.alloc ?_ ?side_ _); case side_ => (first | (with_reducible exact Nat.le_refl _) | (with_reducible assumption) | omega | (simp; done) | (simp; omega))) | ((with_reducible refine Below.trans ?_ (hb1.mono ?side_)); case side_ => (first | (with_reducible exact Nat.le_refl _) | (with_reducible assumption) | omega | (simp; done) | (simp; omega))) | ((with_reducible refine Below.trans ?_ (hb3.mono ?side_)); case side_ => (first | (with_reducible exact Nat.le_refl _) | (with_reducible assumption) | omega | (simp; done) | (simp; omega))) | ((with_reducible refine Below.trans ?_ (hb4.mono ?side_)); case side_ => (first | (with_reducible exact Nat.le_refl _) | (with_reducible assumption) | omega | (simp; done) | (simp; omega))) | ((with_reducible refine Below.trans ?_ (hb5.mono ?side_)); case side_ => (first | (with_reducible exact Nat.le_refl _) | (with_reducible assumption) | omega | (simp; done) | (simp; omega))) | ((with_reducible refine Below.trans ?_ (hb6.mono ?side_)); case side_ => (first | (with_reducible exact Nat.le_refl _) | (with_reducible assumption) | omega | (simp; done) | (simp; omega)))))⟩
end Go.Proofs.Ytdhegcjclfllmaa.VecR
namespace Go.Proofs.Ytdhegcjclfllmaa.PE
open Go Go.RowKit
def pointillistref09_Half.f (a b c d : Int) : Option (Int × Int) :=
  if (-9223372036854775808 ≤ a ∧ a ≤ 9223372036854775807) ∧ (-9223372036854775808 ≤ b ∧ b ≤ 9223372036854775807) ∧ (-9223372036854775808 ≤ c ∧ c ≤ 9223372036854775807) ∧ (-9223372036854775808 ≤ d ∧ d ≤ 9223372036854775807) then some (VecR.halfS (Ref.doV a c b d 30), VecR.halfC (Ref.doV a c b d 30)) else none
theorem pointillistref09_Half.calls (a0_0 a0_1 a1_0 a1_1 r1 r2 : Int) (w : World) (h : pointillistref09_Half.f a0_0 a0_1 a1_0 a1_1 = some (r1, r2)) :
    Calls Try.prog 38 #[.agg #[.int .i64 a0_0, .int .i64 a0_1], .agg #[.int .i64 a1_0, .int .i64 a1_1]] w fun e w' => e = .returned (.tuple #[.int .i64 r1, .int .i64 r2]) ∧ Below w.heap.size w w' := by
  unfold pointillistref09_Half.f at h
  split at h
  · rename_i hc
    cases h
    exact VecR.half_calls a0_0 a0_1 a1_0 a1_1 hc w
  · cases h
end Go.Proofs.Ytdhegcjclfllmaa.PE
