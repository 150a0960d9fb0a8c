/- Package ref01, walked: plus and minus. For all rows of at most 64 digits. -/
import Derived.Test.YtngnkgnobgfjeaaDoorRefA
namespace Go.Proofs.YtngnkgnobgfjeaaDoor.Ref
open Go Go.RowKit Open
set_option maxRecDepth 100000
set_option linter.unusedVariables false
set_option linter.unusedSimpArgs false

/-- What a loop knows of the row that it builds: its value, and what the next number makes of it. -/
theorem quo_nonneg {x : Int} (h : 0 ≤ x) : x.tdiv 65536 = x / 65536 := Int.tdiv_eq_ediv_of_nonneg h
theorem rem_nonneg {x : Int} (h : 0 ≤ x) : x.tmod 65536 = x % 65536 := Int.tmod_eq_emod_of_nonneg h

theorem below_drewN {B : Nat} {a w : World} (h : Below B a w) (n : Nat) : Below B a (w.drewN n) := h.trans ⟨rfl, rfl, rfl, Nat.le_refl _, fun _ _ => rfl⟩

set_option maxHeartbeats 4000000 in
theorem plus_calls (A B : Option Addr) (ps qs : List Int) (ca cb : Nat) (a b : Int) (w : World) (hA : IntRow w .i64 A ps) (hB : IntRow w .i64 B qs) (ha : Says ps a) (hb : Says qs b) (la : ps.length ≤ 64) (lb : qs.length ≤ 64) :
    Calls Tryd.prog 22 #[.slice A ps.length ca, .slice B qs.length cb] w fun e w' => ∃ C cs cc, e = .returned (.slice C cs.length cc) ∧ Out w w' C cs (a + b) := by
  go_enter Tryd.func22, Tryd.ntmps22
  go_wp2
  go_loopw [5, 6, 7] (fun v c i wr => ∃ k out C, i = .int .i64 (k : Nat) ∧ c = .int .i64 C ∧ Plus ps qs out k C ∧ Own w wr v out ∧ k ≤ 65 ∧ (k = 65 → C = 0)) (fun _ _ i _ => 66 - (intOf i).toNat)
  case atStart => exact ⟨0, [], 0, rfl, rfl, Plus.start ps qs, Own.nil (Below.refl _ _), by omega, by omega⟩
  case round =>
    obtain ⟨k, out, C, rfl, rfl, hP, hown, hk, hk2⟩ := hrel
    have hc0 := hP.c0
    have hc1 := hP.c1
    have hl := hP.len
    have hSt := hP.step ha.dig hb.dig (x := C + ps.getD k 0 + qs.getD k 0) rfl
    have hDn : C = 0 → ps.length ≤ k → qs.length ≤ k → val out = a + b := fun h1 h2 h3 => by subst h1; rw [hP.done h2 h3, ha.val, hb.val]
    have cA := (hA.below hown.bel).cell k
    have cB := (hB.below hown.bel).cell k
    have dA := ha.dig.at k
    have dB := hb.dig.at k
    have zA : ps.length ≤ k → ps.getD k 0 = 0 := fun h => by simp [h]
    have zB : qs.length ≤ k → qs.getD k 0 = 0 := fun h => by simp [h]
    have hdig := hP.dig
    rw [getD_q] at cA cB
    generalize ps.getD k 0 = x at *
    generalize qs.getD k 0 = y at *
    by_cases hx : k < ps.length ∨ k < qs.length ∨ 0 < C
    · have hnext : k + 1 ≤ 65 ∧ (k + 1 = 65 → (C + x + y) / 65536 = 0) := by
        obtain ⟨_, h2, h3⟩ := hSt
        constructor
        · rcases Nat.lt_or_ge k 65 with h | h
          · omega
          · have := hk2 (by omega); omega
        · intro h
          have := zA (by omega)
          have := zB (by omega)
          omega
      by_cases q1 : k < ps.length <;> by_cases q2 : k < qs.length
      · skip
        try simp only [Int.add_zero] at hSt hnext
        obtain ⟨h1, h2, h3⟩ := hSt
        have e1 := quo_nonneg h2
        have e2 := rem_nonneg h2
        have HP := Lib.hid h1
        clear h1 hP hDn
        obtain ⟨b1, o1, rfl, hb1, hc1'⟩ := cA q1
        obtain ⟨b2, o2, rfl, hb2, hc2'⟩ := cB q2
        go_wp2_with (at_builtin; refine app1 rfl _ _ rfl _ _ rfl (hown.alloc _) _ _ rfl (cell_new _ _ _) (by omega) ?_; intro v' w2 hown' hgrow')
        go_roundw
        case rel => exact ⟨k + 1, out ++ [(C + x + y) % 65536], (C + x + y) / 65536, by go_num, by simp [e1], HP.out, by simpa [e2] using hown', hnext.1, hnext.2⟩
        case measure => simp [intOf]; omega
      · obtain rfl : y = 0 := zB (by omega)
        try simp only [Int.add_zero] at hSt hnext
        obtain ⟨h1, h2, h3⟩ := hSt
        have e1 := quo_nonneg h2
        have e2 := rem_nonneg h2
        have HP := Lib.hid h1
        clear h1 hP hDn
        obtain ⟨b1, o1, rfl, hb1, hc1'⟩ := cA q1
        go_wp2_with (at_builtin; refine app1 rfl _ _ rfl _ _ rfl (hown.alloc _) _ _ rfl (cell_new _ _ _) (by omega) ?_; intro v' w2 hown' hgrow')
        go_roundw
        case rel => exact ⟨k + 1, out ++ [(C + x) % 65536], (C + x) / 65536, by go_num, by simp [e1], HP.out, by simpa [e2] using hown', hnext.1, hnext.2⟩
        case measure => simp [intOf]; omega
      · obtain rfl : x = 0 := zA (by omega)
        try simp only [Int.add_zero] at hSt hnext
        obtain ⟨h1, h2, h3⟩ := hSt
        have e1 := quo_nonneg h2
        have e2 := rem_nonneg h2
        have HP := Lib.hid h1
        clear h1 hP hDn
        obtain ⟨b2, o2, rfl, hb2, hc2'⟩ := cB q2
        go_wp2_with (at_builtin; refine app1 rfl _ _ rfl _ _ rfl (hown.alloc _) _ _ rfl (cell_new _ _ _) (by omega) ?_; intro v' w2 hown' hgrow')
        go_roundw
        case rel => exact ⟨k + 1, out ++ [(C + y) % 65536], (C + y) / 65536, by go_num, by simp [e1], HP.out, by simpa [e2] using hown', hnext.1, hnext.2⟩
        case measure => simp [intOf]; omega
      · have q4 : ps.length ≤ k := Nat.le_of_not_lt q1
        have q5 : qs.length ≤ k := Nat.le_of_not_lt q2
        clear cA cB
        obtain rfl : x = 0 := zA q4
        obtain rfl : y = 0 := zB q5
        have q3 : 0 < C := by omega
        try simp only [Int.add_zero] at hSt hnext
        obtain ⟨h1, h2, h3⟩ := hSt
        have e1 := quo_nonneg h2
        have e2 := rem_nonneg h2
        have HP := Lib.hid h1
        clear h1 hP hDn
        go_wp2_with (at_builtin; refine app1 rfl _ _ rfl _ _ rfl (hown.alloc _) _ _ rfl (cell_new _ _ _) (by omega) ?_; intro v' w2 hown' hgrow')
        go_roundw
        case rel => exact ⟨k + 1, out ++ [(C) % 65536], (C) / 65536, by go_num, by simp [e1], HP.out, by simpa [e2] using hown', hnext.1, hnext.2⟩
        case measure => simp [intOf]; omega
    · have hv := hDn (by omega) (by omega) (by omega)
      obtain rfl : C = 0 := by omega
      clear hDn hP hSt hl cA cB zA zB
      have q1 : ¬ k < ps.length := by omega
      have q2 : ¬ k < qs.length := by omega
      clear hx
      obtain ⟨C1, cap1, rfl, l1, l2, hR, hnew⟩ := hown.read hdig
      have hbel := hown.bel
      go_wp2_with (go_at_call 25; ((with_reducible refine (trim_calls C1 out cap1 l1 l2 hdig _ hR).mono ?_); rintro e w1 ⟨m, rfl, hm, hval, htop, rfl⟩))
      go_ret
      refine ⟨C1, out.take m, cap1, by rw [List.length_take, Nat.min_eq_left hm]; rfl, ⟨hR.take m, ⟨hdig.take m, htop, by rw [hval, hv]⟩, hbel, hnew⟩⟩
set_option maxHeartbeats 4000000 in
theorem minus_calls (A B : Option Addr) (ps qs : List Int) (ca cb : Nat) (a b : Int) (w : World) (hA : IntRow w .i64 A ps) (hB : IntRow w .i64 B qs) (ha : Says ps a) (hb : Says qs b) (la : ps.length ≤ 66) (lb : qs.length ≤ ps.length) (hle : b ≤ a) :
    Calls Tryd.prog 24 #[.slice A ps.length ca, .slice B qs.length cb] w fun e w' => ∃ C cs cc, e = .returned (.slice C cs.length cc) ∧ Out w w' C cs (a - b) := by
  go_enter Tryd.func24, Tryd.ntmps24
  go_wp2
  go_loopw [5, 6, 7] (fun v c i wr => ∃ k out C, i = .int .i64 (k : Nat) ∧ c = .int .i64 C ∧ Minus ps qs out k C ∧ Own w wr v out ∧ k ≤ ps.length) (fun _ _ i _ => 66 - (intOf i).toNat)
  case atStart => exact ⟨0, [], 0, rfl, rfl, Minus.start ps qs, Own.nil (Below.refl _ _), by omega⟩
  case round =>
    obtain ⟨k, out, C, rfl, rfl, hP, hown, hk⟩ := hrel
    have hc0 := hP.c0
    have hc1 := hP.c1
    have hl := hP.len
    have hSt := fun y b => hP.step ha.dig hb.dig (x := ps.getD k 0 - C - qs.getD k 0) (y := y) (b := b) rfl
    have hDn : ps.length = k → val out = a - b := fun h1 => by rw [hP.done h1 (by omega) (by rw [ha.val, hb.val]; exact hle), ha.val, hb.val]
    have cA := (hA.below hown.bel).cell k
    have cB := (hB.below hown.bel).cell k
    have dA := ha.dig.at k
    have dB := hb.dig.at k
    have zB : qs.length ≤ k → qs.getD k 0 = 0 := fun h => by simp [h]
    have hdig := hP.dig
    rw [getD_q] at cA cB
    generalize ps.getD k 0 = x at *
    generalize qs.getD k 0 = y at *
    by_cases hx : k < ps.length
    · obtain ⟨b1, o1, rfl, hb1, hc1'⟩ := cA hx
      clear hDn hP
      by_cases q2 : k < qs.length
      · obtain ⟨b2, o2, rfl, hb2, hc2'⟩ := cB q2
        by_cases q3 : x - C - y < 0
        · have h1 := hSt (x - C - y + 65536) 1 rfl (by simp [q3])
          have HP := Lib.hid h1
          clear h1 hSt
          go_wp2_with (at_builtin; refine app1 rfl _ _ rfl _ _ rfl (hown.alloc _) _ _ rfl (cell_new _ _ _) (by omega) ?_; intro v' w2 hown' hgrow')
          go_roundw
          case rel => exact ⟨k + 1, out ++ [x - C - y + 65536], 1, by go_num, rfl, HP.out, by simpa using hown', by omega⟩
          case measure => simp [intOf]; omega
        · have h1 := hSt (x - C - y) 0 (by omega) (by simp [q3])
          have HP := Lib.hid h1
          clear h1 hSt
          go_wp2_with (at_builtin; refine app1 rfl _ _ rfl _ _ rfl (hown.alloc _) _ _ rfl (cell_new _ _ _) (by omega) ?_; intro v' w2 hown' hgrow')
          go_roundw
          case rel => exact ⟨k + 1, out ++ [x - C - y], 0, by go_num, rfl, HP.out, by simpa using hown', by omega⟩
          case measure => simp [intOf]; omega
      · have q4 : qs.length ≤ k := Nat.le_of_not_lt q2
        clear cA cB
        obtain rfl : y = 0 := zB q4
        by_cases q3 : x - C < 0
        · have h1 := hSt (x - C + 65536) 1 (by omega) (by simp [q3])
          have HP := Lib.hid h1
          clear h1 hSt
          go_wp2_with (at_builtin; refine app1 rfl _ _ rfl _ _ rfl (hown.alloc _) _ _ rfl (cell_new _ _ _) (by omega) ?_; intro v' w2 hown' hgrow')
          go_roundw
          case rel => exact ⟨k + 1, out ++ [x - C + 65536], 1, by go_num, rfl, HP.out, by simpa using hown', by omega⟩
          case measure => simp [intOf]; omega
        · have h1 := hSt (x - C) 0 (by omega) (by simp [q3])
          have HP := Lib.hid h1
          clear h1 hSt
          go_wp2_with (at_builtin; refine app1 rfl _ _ rfl _ _ rfl (hown.alloc _) _ _ rfl (cell_new _ _ _) (by omega) ?_; intro v' w2 hown' hgrow')
          go_roundw
          case rel => exact ⟨k + 1, out ++ [x - C], 0, by go_num, rfl, HP.out, by simpa using hown', by omega⟩
          case measure => simp [intOf]; omega
    · have hv := hDn (by omega)
      clear hDn hP hSt hl cA cB zB
      obtain ⟨C1, cap1, rfl, l1, l2, hR, hnew⟩ := hown.read hdig
      have hbel := hown.bel
      go_wp2_with (go_at_call 25; ((with_reducible refine (trim_calls C1 out cap1 l1 l2 hdig _ hR).mono ?_); rintro e w1 ⟨m, rfl, hm, hval, htop, rfl⟩))
      go_ret
      refine ⟨C1, out.take m, cap1, by rw [List.length_take, Nat.min_eq_left hm]; rfl, ⟨hR.take m, ⟨hdig.take m, htop, by rw [hval, hv]⟩, hbel, hnew⟩⟩

set_option maxHeartbeats 4000000 in
/-- less: which one is less; nothing turns. -/
theorem less_calls (A B : Option Addr) (ps qs : List Int) (ca cb : Nat) (a b : Int) (w : World) (hA : IntRow w .i64 A ps) (hB : IntRow w .i64 B qs) (ha : Says ps a) (hb : Says qs b) (la : ps.length ≤ 1000) (lb : qs.length ≤ 1000) :
    Calls Tryd.prog 23 #[.slice A ps.length ca, .slice B qs.length cb] w fun e w' => e = .returned (.bool (decide (a < b))) ∧ Below w.heap.size w w' := by
  by_cases hne : ps.length = qs.length
  · obtain ⟨r, hr⟩ : ∃ r, decide (a < b) = r := ⟨_, rfl⟩
    rw [hr]
    have hlast : ∀ h : val (ps.drop 0) = val (qs.drop 0), r = false := fun h => by
      rw [← hr]
      simp only [List.drop_zero, ha.val, hb.val] at h
      simp [h]
    have hat : ∀ k, k < ps.length → val (ps.drop (k + 1)) = val (qs.drop (k + 1)) → ps.getD k 0 ≠ qs.getD k 0 → r = decide (ps.getD k 0 < qs.getD k 0) := fun k h1 h2 h3 => by
      rw [← hr, ← less_at ha.dig hb.dig h1 (by omega) h2 h3, ha.val, hb.val]
    have hgo : ∀ k, k < ps.length → val (ps.drop (k + 1)) = val (qs.drop (k + 1)) → ps.getD k 0 = qs.getD k 0 → val (ps.drop k) = val (qs.drop k) := fun k h1 h2 h3 => by
      rw [val_drop ps h1, val_drop qs (by omega), h2, h3]
    have hst : val (ps.drop ps.length) = val (qs.drop ps.length) := by rw [List.drop_of_length_le (by omega), List.drop_of_length_le (by omega)]
    have LA := Lib.hid hlast
    have AT := Lib.hid hat
    have GO := Lib.hid hgo
    have ST := Lib.hid hst
    clear hlast hat hgo hst hr
    obtain ⟨n, hn⟩ : ∃ n, n = ps.length := ⟨_, rfl⟩
    have hn2 : qs.length = n := by omega
    clear hne
    go_enter Tryd.func23, Tryd.ntmps23
    rw [hn2, ← hn]
    go_wp2
    go_loopw [5] (fun i wr => ∃ k : Nat, k ≤ n ∧ i = .int .i64 ((k : Int) - 1) ∧ val (ps.drop k) = val (qs.drop k) ∧ Below w.heap.size w wr) (fun i _ => (intOf i + 1).toNat)
    case atStart => exact ⟨n, Nat.le_refl _, by rw [hn], by rw [hn]; exact ST.out, Below.refl _ _⟩
    case round =>
      obtain ⟨k, hk, rfl, hv, hbel⟩ := hrel
      have HV := Lib.hid hv
      clear hv
      by_cases hp : 0 < k
      · obtain ⟨j, rfl⟩ : ∃ j, k = j + 1 := ⟨k - 1, by omega⟩
        obtain ⟨b1, o1, rfl, hb1, hc1⟩ := (hA.below hbel).cell j (by omega)
        obtain ⟨b2, o2, rfl, hb2, hc2⟩ := (hB.below hbel).cell j (by omega)
        have e0 : ((j + 1 : Nat) : Int) - 1 = (j : Nat) := by omega
        rw [e0]
        have dA := ha.dig.at j
        have dB := hb.dig.at j
        rw [getD_q] at hc1 hc2
        have G := Lib.hid (GO.out j (by omega) HV.out)
        have T := Lib.hid (AT.out j (by omega) HV.out)
        generalize ps.getD j 0 = x at *
        generalize qs.getD j 0 = y at *
        by_cases hxy : x = y
        · subst hxy
          have G2 := Lib.hid (G.out rfl)
          clear G T AT
          go_wp2
          go_quiet (fail)
          go_wp2
          go_roundw
          case rel => exact ⟨j, by omega, by go_num, G2.out, below_drewN hbel _⟩
          case measure => simp [intOf]
        · obtain rfl := T.out hxy
          clear T G AT LA
          go_wp2
          go_quiet (fail)
          go_wp2
          go_quiet (fail)
          go_wp2
          go_ret
          exact ⟨rfl, by first | exact below_drewN (below_drewN hbel _) _ | exact below_drewN hbel _⟩
      · obtain rfl : k = 0 := by omega
        obtain rfl := LA.out HV.out
        go_wp2
        go_ret
        exact ⟨rfl, hbel⟩
  · rw [less_of_len ha hb hne]
    go_enter Tryd.func23, Tryd.ntmps23
    go_wp2
    go_ret
    exact ⟨rfl, Below.refl _ _⟩
end Go.Proofs.YtngnkgnobgfjeaaDoor.Ref
