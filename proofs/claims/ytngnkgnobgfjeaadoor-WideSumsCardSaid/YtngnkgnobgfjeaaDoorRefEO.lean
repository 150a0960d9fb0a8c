/- Package ref01, walked: Plain. For all numbers. -/
import Derived.Test.YtngnkgnobgfjeaaDoorRefO
namespace Go.Proofs.YtngnkgnobgfjeaaDoor.Ref
open Go Go.RowKit Open
set_option maxRecDepth 100000
set_option linter.unusedVariables false
set_option linter.unusedSimpArgs false

def fitV (V : Int) : Int := if -9223372036854775808 ≤ V ∧ V ≤ 9223372036854775807 then V else 0
def fitB (V : Int) : Bool := decide (-9223372036854775808 ≤ V ∧ V ≤ 9223372036854775807)
theorem fit_yes {V : Int} (h : -9223372036854775808 ≤ V ∧ V ≤ 9223372036854775807) : fitV V = V ∧ fitB V = true := ⟨if_pos h, decide_eq_true h⟩
theorem fit_no {V : Int} (h : ¬ (-9223372036854775808 ≤ V ∧ V ≤ 9223372036854775807)) : fitV V = 0 ∧ fitB V = false := ⟨if_neg h, decide_eq_false h⟩
theorem fit_big {s : Bool} {n : Int} (h : 9223372036854775808 < n) : fitV (sg s n) = 0 ∧ fitB (sg s n) = false := fit_no (by cases s <;> simp [sg] <;> omega)
/-- The upper digits say no more than the whole. -/
theorem drop_le {ds : List Int} (h : Dig ds) {k : Nat} (hk : k ≤ ds.length) : val (ds.drop k) ≤ val ds := by
  have e := val_split ds hk
  have h1 := val_nonneg (h.take k)
  have h2 := val_nonneg (h.drop k)
  have h3 : 1 * val (ds.drop k) ≤ pw k * val (ds.drop k) := Int.mul_le_mul_of_nonneg_right (pw_pos k) h2
  omega

set_option maxHeartbeats 4000000 in
theorem plain_calls (s : Bool) (A : Option Addr) (ps : List Int) (ca : Nat) (n : Int) (w : World) (hA : IntRow w .i64 A ps) (ha : Says ps n) (la : ps.length ≤ 1000) :
    Calls Tryd.prog 14 #[.agg #[.bool s, .slice A ps.length ca]] w fun e w' => e = .returned (.tuple #[.int .i64 (fitV (sg s n)), .bool (fitB (sg s n))]) ∧ Below w.heap.size w w' := by
  have hb := below_a1 w (.cells #[.bool s, .slice A ps.length ca] 38)
  have hA1 := hA.below hb
  by_cases hl : 4 < ps.length
  · have hbig : 9223372036854775808 < n := by
      have h1 := val_ge ha.dig ha.top (k := ps.length - 1) (by omega)
      have h2 := pw_mono (show 4 ≤ ps.length - 1 by omega)
      have e4 : pw 4 = 18446744073709551616 := by decide
      rw [ha.val] at h1
      omega
    obtain ⟨e1, e2⟩ := fit_big (s := s) hbig
    rw [e1, e2]
    go_enter Tryd.func14, Tryd.ntmps14
    go_wp2
    go_ret2
    exact ⟨rfl, hb⟩
  · have hv : ∀ k, k < ps.length → val (ps.drop k) = ps.getD k 0 + 65536 * val (ps.drop (k + 1)) := fun k hk => val_drop ps hk
    have hle : ∀ k, k ≤ ps.length → val (ps.drop k) ≤ n := fun k hk => by rw [← ha.val]; exact drop_le ha.dig hk
    have h0 : val (ps.drop 0) = n := by simpa using ha.val
    have hend : val (ps.drop ps.length) = 0 := by rw [List.drop_of_length_le (Nat.le_refl _)]; rfl
    have hnn : ∀ k, 0 ≤ val (ps.drop k) := fun k => val_nonneg (ha.dig.drop k)
    have HV := Lib.hid hv
    have HLE := Lib.hid hle
    have H0 := Lib.hid h0
    have HE := Lib.hid hend
    have HN := Lib.hid hnn
    clear hv hle h0 hend hnn
    obtain ⟨fv, hfv⟩ : ∃ fv, fitV (sg s n) = fv := ⟨_, rfl⟩
    obtain ⟨fb, hfb⟩ : ∃ fb, fitB (sg s n) = fb := ⟨_, rfl⟩
    rw [hfv, hfb]
    have FV := Lib.hid hfv
    have FB := Lib.hid hfb
    clear hfv hfb
    go_enter Tryd.func14, Tryd.ntmps14
    go_wp2
    go_loop [4, 5] (fun v i => ∃ k : Nat, k ≤ ps.length ∧ i = .int .i64 ((k : Int) - 1) ∧ v = .int .i64 (-(val (ps.drop k))) ∧ val (ps.drop k) ≤ 9223372036854775808) (fun _ i => (intOf i + 1).toNat)
    case atStart => exact ⟨ps.length, Nat.le_refl _, rfl, by rw [HE.out]; rfl, by rw [HE.out]; omega⟩
    case round =>
      obtain ⟨k, hk, rfl, rfl, hm⟩ := hrel
      by_cases hp : 0 < k
      · obtain ⟨j, rfl⟩ : ∃ j, k = j + 1 := ⟨k - 1, by omega⟩
        have e0 : ((j + 1 : Nat) : Int) - 1 = (j : Nat) := by omega
        rw [e0]
        obtain ⟨b1, o1, rfl, hb1, hc1⟩ := hA1.cell j (by omega)
        have dA := ha.dig.at j
        have hvj := HV.out j (by omega)
        have hlj := HLE.out j (by omega)
        have hnj := HN.out (j + 1)
        rw [getD_q] at hc1
        generalize ps.getD j 0 = d at *
        generalize hV : val (ps.drop (j + 1)) = V at *
        generalize hU : val (ps.drop j) = U at *
        have HU := Lib.hid hU
        clear hU hV
        by_cases q1 : V ≤ 140737488355328
        · by_cases q2 : U ≤ 9223372036854775808
          · go_wp2
            go_round
            case rel => exact ⟨j, by omega, rfl, by rw [HU.out]; congr 1; omega, by rw [HU.out]; omega⟩
            case measure => simp [intOf]
          · obtain ⟨f1, f2⟩ := fit_big (s := s) (n := n) (by omega)
            rw [FV.out] at f1
            rw [FB.out] at f2
            subst f1 f2
            go_wp2
            go_ret2
            exact ⟨rfl, hb⟩
        · obtain ⟨f1, f2⟩ := fit_big (s := s) (n := n) (by omega)
          rw [FV.out] at f1
          rw [FB.out] at f2
          subst f1 f2
          go_wp2
          go_ret2
          exact ⟨rfl, hb⟩
      · obtain rfl : k = 0 := by omega
        rw [H0.out] at hm ⊢
        have hn0 := HN.out 0
        rw [H0.out] at hn0
        cases s
        · by_cases q : n = 9223372036854775808
          · obtain ⟨f1, f2⟩ := fit_no (V := sg false n) (by simp only [sg_false]; omega)
            rw [FV.out] at f1
            rw [FB.out] at f2
            subst f1 f2 q
            go_wp2
            go_ret2
            exact ⟨rfl, hb⟩
          · obtain ⟨f1, f2⟩ := fit_yes (V := sg false n) (by simp only [sg_false]; omega)
            rw [FV.out] at f1
            rw [FB.out] at f2
            simp only [sg_false] at f1
            subst f1 f2
            go_wp2
            go_ret2
            exact ⟨by simp, hb⟩
        · obtain ⟨f1, f2⟩ := fit_yes (V := sg true n) (by simp only [sg_true]; omega)
          rw [FV.out] at f1
          rw [FB.out] at f2
          simp only [sg_true] at f1
          subst f1 f2
          go_wp2
          go_ret2
          exact ⟨rfl, hb⟩
end Go.Proofs.YtngnkgnobgfjeaaDoor.Ref
