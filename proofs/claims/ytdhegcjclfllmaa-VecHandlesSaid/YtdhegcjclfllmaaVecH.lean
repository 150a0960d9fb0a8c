/- Package vec's Half, walked: the roots of half of what the cosine lacks of one, and of what it has over minus one. For all directions within reach. -/
import Derived.Test.YtdhegcjclfllmaaEx1
import Derived.Lib.Hide
import Derived.Test.YtdhegcjclfllmaaPEx2
namespace Go.Proofs.Ytdhegcjclfllmaa.Vec
open Go Go.RowKit Go.Proofs.Ytdhegcjclfllmaa.PE Go.Proofs.YtdhegcjclfllmaaW.PrintWords Go.Proofs.YtdhegcjclfllmaaW.PrintLast Go.Proofs.YtdhegcjclfllmaaW.PrintMore
set_option maxRecDepth 100000
set_option linter.unusedVariables false
set_option linter.unusedSimpArgs false
attribute [local go_sem] max2_int min2_int max_two min_two
theorem w64 {x : Int} (h0 : -9223372036854775808 ≤ x) (h1 : x ≤ 9223372036854775807) : wrap64 x = x := by unfold wrap64; omega
theorem wu {x : Int} (h0 : 0 ≤ x) (h1 : x ≤ 18446744073709551615) : IntKind.u64.wrap x = x := by rw [Num.wrap_u64]; omega
theorem rootF_in {n : Int} (h0 : 0 ≤ n) (h1 : n ≤ 1152921504606846976) : 0 ≤ Root.rootF n ∧ Root.rootF n ≤ 4294967295 := by
  obtain ⟨a, _, _, b⟩ := Root.rootF_spec h0 (by omega); exact ⟨a, b⟩
theorem side_calls (k : Int) (h0 : -1073741824 ≤ k) (h1 : k ≤ 1073741824) (w : World) : Calls Try.prog 65 #[.int .i64 k] w fun e w' => e = .returned (.int .i64 (Root.rootF ((1073741824 + k) * 536870912))) ∧ Below w.heap.size w w' := by
  have FL := Lib.hid (fun w => root_Floor.calls ((1073741824 + k) * 536870912) _ w (if_pos (by omega)))
  have e1 : wrap64 (1073741824 + k) = 1073741824 + k := w64 (by omega) (by omega)
  have e2 : IntKind.u64.wrap (1073741824 + k) = 1073741824 + k := wu (by omega) (by omega)
  have e3 : IntKind.u64.wrap ((1073741824 + k) * 536870912) = (1073741824 + k) * 536870912 := wu (by omega) (by omega)
  obtain ⟨r0, r1⟩ := rootF_in (n := (1073741824 + k) * 536870912) (by omega) (by omega)
  generalize Root.rootF ((1073741824 + k) * 536870912) = r at *
  have e4 : wrap64 r = r := w64 (by omega) (by omega)
  go_enter Try.func65, Try.ntmps65
  go_wp2_with (go_at_call 66; ((with_reducible refine (FL.out _).mono ?_); rintro e w1 ⟨rfl, hb1⟩))
  go_ret
  exact ⟨by simp, hb1⟩
/-- What lies from -1 to 1 of a cosine. -/
def cut (D : Int) : Int := mn (mx D (-1073741824)) 1073741824
theorem cut_in (D : Int) : -1073741824 ≤ cut D ∧ cut D ≤ 1073741824 := by unfold cut mn mx; (repeat' split) <;> omega
def dot (a b c d : Int) : Int := Wide.dotV a c b d 30
def halfS (D : Int) : Int := Root.rootF ((1073741824 - cut D) * 536870912)
def halfC (D : Int) : Int := Root.rootF ((1073741824 + cut D) * 536870912)
theorem dot_f (a b c d : Int) (ha : (-9223372036854775808 ≤ a ∧ a ≤ 9223372036854775807) ∧ (-9223372036854775808 ≤ b ∧ b ≤ 9223372036854775807) ∧ (-9223372036854775808 ≤ c ∧ c ≤ 9223372036854775807) ∧ (-9223372036854775808 ≤ d ∧ d ≤ 9223372036854775807)) : vec_Dot.f a b c d = some (dot a b c d) := by
  unfold vec_Dot.f wide_Dot.f
  rw [if_pos (by omega)]; rfl
set_option maxHeartbeats 4000000 in
theorem half_calls (a b c d : Int) (ha : (-9223372036854775808 ≤ a ∧ a ≤ 9223372036854775807) ∧ (-9223372036854775808 ≤ b ∧ b ≤ 9223372036854775807) ∧ (-9223372036854775808 ≤ c ∧ c ≤ 9223372036854775807) ∧ (-9223372036854775808 ≤ d ∧ d ≤ 9223372036854775807)) (w : World) :
    Calls Try.prog 37 #[.agg #[.int .i64 a, .int .i64 b], .agg #[.int .i64 c, .int .i64 d]] w fun e w' => e = .returned (.tuple #[.int .i64 (halfS (dot a b c d)), .int .i64 (halfC (dot a b c d))]) ∧ Below w.heap.size w w' := by
  have DT := Lib.hid (fun w => vec_Dot.calls a b c d _ w (dot_f a b c d ha))
  obtain ⟨c0, c1⟩ := cut_in (dot a b c d)
  have S1 := Lib.hid (fun w => side_calls (-cut (dot a b c d)) (by omega) (by omega) w)
  have S2 := Lib.hid (fun w => side_calls (cut (dot a b c d)) c0 c1 w)
  have eM : (if (if dot a b c d < -1073741824 then -1073741824 else dot a b c d) > 1073741824 then 1073741824 else (if dot a b c d < -1073741824 then -1073741824 else dot a b c d)) = cut (dot a b c d) := by unfold cut mn mx; (repeat' split) <;> omega
  have eS : (1073741824 + -cut (dot a b c d)) * 536870912 = (1073741824 - cut (dot a b c d)) * 536870912 := by omega
  rw [eS] at S1
  clear eS
  unfold halfS halfC
  have hmx : mx (dot a b c d) (-1073741824) = if dot a b c d < -1073741824 then -1073741824 else dot a b c d := rfl
  have hcut : cut (dot a b c d) = if 1073741824 < mx (dot a b c d) (-1073741824) then 1073741824 else mx (dot a b c d) (-1073741824) := rfl
  generalize hD : dot a b c d = D at *
  generalize hM : mx D (-1073741824) = M at *
  generalize hC : cut D = C at *
  have e1 : wrap64 (-C) = -C := w64 (by omega) (by omega)
  have hmx' := hmx.symm
  have hcut' := hcut.symm
  clear hmx hcut eM hD hM hC
  go_enter Try.func37, Try.ntmps37
  go_wp2_with (first
    | (go_at_call 35; ((with_reducible refine (DT.out _).mono ?_); rintro e w1 ⟨rfl, hb1⟩))
    | (go_at_call 65; ((with_reducible refine (S1.out _).mono ?_); rintro e w2 ⟨rfl, hb2⟩))
    | (go_at_call 65; ((with_reducible refine (S2.out _).mono ?_); rintro e w3 ⟨rfl, hb3⟩)))
  go_ret2
  exact ⟨rfl, by have z_hb1 := hb1.size; (try simp at z_hb1); have z_hb2 := hb2.size; (try simp at z_hb2); have z_hb3 := hb3.size; (try simp at z_hb3); (repeat' (first | (with_reducible exact Below.refl _ _) | (with_reducible refine Below.drew ?_) | (with_reducible refine below_drewN ?_ _) | ((with_reducible refine Below.setCell ?_ ?side_ _); case side_ => (first | (with_reducible exact Nat.le_refl _) | (with_reducible assumption) | omega | (simp; done) | (simp; omega))) | ((with_reducible refine Below.alloc ?_ ?side_ _); case side_ => (first | (with_reducible exact Nat.le_refl _) | (with_reducible assumption) | omega | (simp; done) | (simp; omega))) | ((with_reducible refine Below.trans ?_ (hb1.mono ?side_)); case side_ => (first | (with_reducible exact Nat.le_refl _) | (with_reducible assumption) | omega | (simp; done) | (simp; omega))) | ((with_reducible refine Below.trans ?_ (hb2.mono ?side_)); case side_ => (first | (with_reducible exact Nat.le_refl _) | (with_reducible assumption) | omega | (simp; done) | (simp; omega))) | ((with_reducible refine Below.trans ?_ (hb3.mono ?side_)); case side_ => (first | (with_reducible exact Nat.le_refl _) | (with_reducible assumption) | omega | (simp; done) | (simp; omega)))))⟩
end Go.Proofs.Ytdhegcjclfllmaa.Vec
namespace Go.Proofs.Ytdhegcjclfllmaa.PE
open Go Go.RowKit
def vec_Half.f (a b c d : Int) : Option (Int × Int) :=
  if (-9223372036854775808 ≤ a ∧ a ≤ 9223372036854775807) ∧ (-9223372036854775808 ≤ b ∧ b ≤ 9223372036854775807) ∧ (-9223372036854775808 ≤ c ∧ c ≤ 9223372036854775807) ∧ (-9223372036854775808 ≤ d ∧ d ≤ 9223372036854775807) then some (Vec.halfS (Vec.dot a b c d), Vec.halfC (Vec.dot a b c d)) else none
theorem vec_Half.calls (a0_0 a0_1 a1_0 a1_1 r1 r2 : Int) (w : World) (h : vec_Half.f a0_0 a0_1 a1_0 a1_1 = some (r1, r2)) :
    Calls Try.prog 37 #[.agg #[.int .i64 a0_0, .int .i64 a0_1], .agg #[.int .i64 a1_0, .int .i64 a1_1]] w fun e w' => e = .returned (.tuple #[.int .i64 r1, .int .i64 r2]) ∧ Below w.heap.size w w' := by
  unfold vec_Half.f at h
  split at h
  · rename_i hc
    cases h
    exact Vec.half_calls a0_0 a0_1 a1_0 a1_1 hc w
  · cases h
end Go.Proofs.Ytdhegcjclfllmaa.PE
