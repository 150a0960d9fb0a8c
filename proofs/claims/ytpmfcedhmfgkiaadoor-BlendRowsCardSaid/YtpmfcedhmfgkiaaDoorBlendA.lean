/- Packages blend and ref21, walked: Right; what comes of one number. For all colours. -/
import Derived.Test.YtpmfcedhmfgkiaaDoorOpFac
import Derived.Test.YtpmfcedhmfgkiaaDoorEq
namespace Go.Proofs.YtpmfcedhmfgkiaaDoor.Ops
open Go Go.RowKit
set_option maxRecDepth 100000
set_option linter.unusedVariables false
set_option linter.unusedSimpArgs false

theorem eqColour (d : Nat) (w : World) (x0 x1 x2 x3 y0 y1 y2 y3 : Int) :
    (Op.equalIn (d + 2) 31 (.agg #[.int .u8 x0, .int .u8 x1, .int .u8 x2, .int .u8 x3]) (.agg #[.int .u8 y0, .int .u8 y1, .int .u8 y2, .int .u8 y3])).run Tryd.prog w = .ok (Eq.eq4 x0 x1 x2 x3 y0 y1 y2 y3) w := by
  unfold Eq.eq4
  obtain ⟨i, hi⟩ : ∃ i, Tryd.prog.info? 5 = some i := ⟨_, rfl⟩
  rw [run_equalIn_array (P := Tryd.prog) w (d + 1) _ _ Tryd.underlying31 hi]
  rw [show Tryd.prog.cellsOf 5 = 1 by kernel_rfl]
  show (Op.eqItems (d + 1) 5 1 _ _ [0, 1, 2, 3]).run _ _ = _
  refine Eq.itm_cons (by go_simp; rfl) (by go_simp; rfl) (by go_simp) (Eq.itm_cons (by go_simp; rfl) (by go_simp; rfl) (by go_simp) (Eq.itm_cons (by go_simp; rfl) (by go_simp; rfl) (by go_simp) (Eq.itm_last (by go_simp; rfl) (by go_simp; rfl) (by go_simp))))
attribute [local go_sem high] eqColour

def rightB (a b c d : Int) : Bool := decide (a ≤ d ∧ b ≤ d ∧ c ≤ d)

set_option maxHeartbeats 4000000 in
theorem refright_calls (a b c d : Int) (w : World) :
    Calls Tryd.prog 23 #[.agg #[.int .u8 a, .int .u8 b, .int .u8 c, .int .u8 d]] w fun e w' => e = .returned (.bool (rightB a b c d)) ∧ Below w.heap.size w w' := by
  by_cases h1 : a ≤ d
  · by_cases h2 : b ≤ d
    · by_cases h3 : c ≤ d
      · rw [show rightB a b c d = true from decide_eq_true ⟨h1, h2, h3⟩]
        go_enter Tryd.func23, Tryd.ntmps23
        go_wp2
        go_ret
        exact ⟨rfl, by repeat' (first | exact Below.refl _ _ | refine Below.drew ?_ | refine below_drewN ?_ _ | (refine Below.setCell ?_ (by first | omega | (simp; done) | (simp; omega)) _) | (refine Below.alloc ?_ (by first | omega | (simp; done) | (simp; omega)) _))⟩
      · rw [show rightB a b c d = false from decide_eq_false (by omega)]
        go_enter Tryd.func23, Tryd.ntmps23
        go_wp2
        go_ret
        exact ⟨rfl, by repeat' (first | exact Below.refl _ _ | refine Below.drew ?_ | refine below_drewN ?_ _ | (refine Below.setCell ?_ (by first | omega | (simp; done) | (simp; omega)) _) | (refine Below.alloc ?_ (by first | omega | (simp; done) | (simp; omega)) _))⟩
    · rw [show rightB a b c d = false from decide_eq_false (by omega)]
      go_enter Tryd.func23, Tryd.ntmps23
      go_wp2
      go_ret
      exact ⟨rfl, by repeat' (first | exact Below.refl _ _ | refine Below.drew ?_ | refine below_drewN ?_ _ | (refine Below.setCell ?_ (by first | omega | (simp; done) | (simp; omega)) _) | (refine Below.alloc ?_ (by first | omega | (simp; done) | (simp; omega)) _))⟩
  · rw [show rightB a b c d = false from decide_eq_false (by omega)]
    go_enter Tryd.func23, Tryd.ntmps23
    go_wp2
    go_ret
    exact ⟨rfl, by repeat' (first | exact Below.refl _ _ | refine Below.drew ?_ | refine below_drewN ?_ _ | (refine Below.setCell ?_ (by first | omega | (simp; done) | (simp; omega)) _) | (refine Below.alloc ?_ (by first | omega | (simp; done) | (simp; omega)) _))⟩

set_option maxHeartbeats 4000000 in
theorem right21_calls (a b c d : Int) (w : World) :
    Calls Tryd.prog 22 #[.agg #[.int .u8 a, .int .u8 b, .int .u8 c, .int .u8 d]] w fun e w' => e = .returned (.bool (rightB a b c d)) ∧ Below w.heap.size w w' := by
  have key : ∀ m : Int, (m = a ∨ m = b ∨ m = c) → a ≤ m → b ≤ m → c ≤ m → decide (m ≤ d) = rightB a b c d := fun m h h1 h2 h3 => by unfold rightB; rw [decide_eq_decide]; omega
  by_cases hab : a < b
  · by_cases hbc : b < c
    · go_enter Tryd.func22, Tryd.ntmps22
      go_wp2
      go_ret
      exact ⟨by rw [← key c (by simp) (by omega) (by omega) (by omega)]; rfl, by repeat' (first | exact Below.refl _ _ | refine Below.drew ?_ | refine below_drewN ?_ _ | (refine Below.setCell ?_ (by first | omega | (simp; done) | (simp; omega)) _) | (refine Below.alloc ?_ (by first | omega | (simp; done) | (simp; omega)) _))⟩
    · go_enter Tryd.func22, Tryd.ntmps22
      go_wp2
      go_ret
      exact ⟨by rw [← key b (by simp) (by omega) (by omega) (by omega)]; rfl, by repeat' (first | exact Below.refl _ _ | refine Below.drew ?_ | refine below_drewN ?_ _ | (refine Below.setCell ?_ (by first | omega | (simp; done) | (simp; omega)) _) | (refine Below.alloc ?_ (by first | omega | (simp; done) | (simp; omega)) _))⟩
  · by_cases hbc : a < c
    · go_enter Tryd.func22, Tryd.ntmps22
      go_wp2
      go_ret
      exact ⟨by rw [← key c (by simp) (by omega) (by omega) (by omega)]; rfl, by repeat' (first | exact Below.refl _ _ | refine Below.drew ?_ | refine below_drewN ?_ _ | (refine Below.setCell ?_ (by first | omega | (simp; done) | (simp; omega)) _) | (refine Below.alloc ?_ (by first | omega | (simp; done) | (simp; omega)) _))⟩
    · go_enter Tryd.func22, Tryd.ntmps22
      go_wp2
      go_ret
      exact ⟨by rw [← key a (by simp) (by omega) (by omega) (by omega)]; rfl, by repeat' (first | exact Below.refl _ _ | refine Below.drew ?_ | refine below_drewN ?_ _ | (refine Below.setCell ?_ (by first | omega | (simp; done) | (simp; omega)) _) | (refine Below.alloc ?_ (by first | omega | (simp; done) | (simp; omega)) _))⟩

/-- What comes of one number, as 65025ths. -/
def numV (o c s d sa da : Int) : Int := (255 - c) * 255 * d + c * (s * srcV o da + d * srcV (othV o) sa)
theorem mul_in {s a S A : Int} (s0 : 0 ≤ s) (s1 : s ≤ S) (a0 : 0 ≤ a) (a1 : a ≤ A) : 0 ≤ s * a ∧ s * a ≤ S * A :=
  ⟨Int.mul_nonneg s0 a0, Int.mul_le_mul s1 a1 a0 (Int.le_trans s0 s1)⟩

set_option maxHeartbeats 4000000 in
theorem number_calls (o c s d sa da : Int) (c0 : 0 ≤ c) (c1 : c ≤ 255) (s0 : 0 ≤ s) (s1 : s ≤ 255) (d0 : 0 ≤ d) (d1 : d ≤ 255) (sa0 : 0 ≤ sa) (sa1 : sa ≤ 255) (da0 : 0 ≤ da) (da1 : da ≤ 255) (w : World) :
    Calls Tryd.prog 24 #[.int .i64 o, .int .i64 c, .int .i64 s, .int .i64 d, .agg #[.int .i64 sa, .int .i64 da]] w fun e w' => e = .returned (.int .i64 (numV o c s d sa da)) ∧ Below w.heap.size w w' := by
  unfold numV
  have SO := Lib.hid (fun w => source_calls o da da0 da1 w)
  have DE := Lib.hid (fun w => dest_calls o sa sa0 sa1 w)
  have A := srcV_bd o da da0 da1
  have B := srcV_bd (othV o) sa sa0 sa1
  generalize srcV o da = a at *
  generalize srcV (othV o) sa = b at *
  obtain ⟨a0, a1⟩ := A
  obtain ⟨b0, b1⟩ := B
  obtain ⟨p0, p1⟩ := mul_in s0 s1 a0 a1
  obtain ⟨q0, q1⟩ := mul_in d0 d1 b0 b1
  obtain ⟨r0, r1⟩ := mul_in (s := c) (a := s * a + d * b) c0 c1 (by omega) (show s * a + d * b ≤ 130050 by omega)
  obtain ⟨t0, t1⟩ := mul_in (s := (255 - c) * 255) (a := d) (S := 65025) (by omega) (by omega) d0 d1
  clear sa0 sa1 da0 da1
  have e1 : IntKind.i64.wrap (255 - c) = 255 - c := IntWalk.i64_in _ (by omega)
  have e2 : IntKind.i64.wrap ((255 - c) * 255) = (255 - c) * 255 := IntWalk.i64_in _ (by omega)
  have e3 : IntKind.i64.wrap ((255 - c) * 255 * d) = (255 - c) * 255 * d := IntWalk.i64_in _ (by omega)
  have e4 : IntKind.i64.wrap (s * a) = s * a := IntWalk.i64_in _ (by omega)
  have e5 : IntKind.i64.wrap (d * b) = d * b := IntWalk.i64_in _ (by omega)
  have e6 : IntKind.i64.wrap (s * a + d * b) = s * a + d * b := IntWalk.i64_in _ (by omega)
  have e7 : IntKind.i64.wrap (c * (s * a + d * b)) = c * (s * a + d * b) := IntWalk.i64_in _ (by omega)
  have e8 : IntKind.i64.wrap ((255 - c) * 255 * d + c * (s * a + d * b)) = (255 - c) * 255 * d + c * (s * a + d * b) := IntWalk.i64_in _ (by omega)
  go_enter Tryd.func24, Tryd.ntmps24
  go_wp2
  go_quiet ((first | (go_at_call 14; exact Eq.quiet_eq (SO.out _)) | (go_at_call 15; exact Eq.quiet_eq (DE.out _))))
  all_goals
    go_wp2
    go_ret
    exact ⟨rfl, by repeat' (first | exact Below.refl _ _ | refine Below.drew ?_ | refine below_drewN ?_ _ | (refine Below.setCell ?_ (by first | omega | (simp; done) | (simp; omega)) _) | (refine Below.alloc ?_ (by first | omega | (simp; done) | (simp; omega)) _))⟩
end Go.Proofs.YtpmfcedhmfgkiaaDoor.Ops
