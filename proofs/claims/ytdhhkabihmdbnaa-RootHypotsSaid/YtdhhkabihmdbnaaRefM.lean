/- Package ref01, walked: Mul. For all numbers of few digits. -/
import Derived.Test.YtdhhkabihmdbnaaRefO
import Derived.Test.YtdhhkabihmdbnaaRefC
namespace Go.Proofs.Ytdhhkabihmdbnaa.Ref
open Go Go.RowKit Open
set_option maxRecDepth 100000
set_option linter.unusedVariables false
set_option linter.unusedSimpArgs false

theorem Own.drewN {w0 w : World} {v : Value} {ds : List Int} (h : Own w0 w v ds) (n : Nat) : Own w0 (w.drewN n) v ds := ⟨h.row, below_drewN h.bel n⟩
theorem Out.from {W w w' : World} {C : Option Addr} {cs : List Int} {n : Int} (h : Out w w' C cs n) (hb : Below W.heap.size W w) : Out W w' C cs n :=
  ⟨h.row, h.says, hb.trans (h.bel.mono hb.size), fun a ha => Nat.le_trans hb.size (h.new a ha)⟩
theorem Out.none (w : World) : Out w w none [] 0 := ⟨⟨fun i hi => by simp at hi, fun z hz => by simp at hz⟩, Says.nil, Below.refl _ _, fun a ha => by cases ha⟩
theorem quo16 {x : Int} (h : 0 ≤ x) : x.tdiv 65536 = x / 65536 ∧ x.tmod 65536 = x % 65536 := ⟨Int.tdiv_eq_ediv_of_nonneg h, Int.tmod_eq_emod_of_nonneg h⟩

set_option maxHeartbeats 8000000 in
theorem mul_calls (s t : Bool) (A B : Option Addr) (ps qs : List Int) (ca cb : Nat) (a b : Int) (w : World) (hA : IntRow w .i64 A ps) (hB : IntRow w .i64 B qs) (ha : Says ps a) (hb : Says qs b) (la : ps.length ≤ 20) (lb : qs.length ≤ 20) :
    Calls Try.prog 40 #[.agg #[.bool s, .slice A ps.length ca], .agg #[.bool t, .slice B qs.length cb]] w fun e w' => ∃ C cs cc, e = .returned (.agg #[.bool (s != t), .slice C cs.length cc]) ∧ Out w w' C cs (a * b) := by
  have F := fun (W : World) (hW : Below (((w.alloc (.cells #[.bool s, .slice A ps.length ca] 60)).alloc (.cells #[.bool t, .slice B qs.length cb] 60)).alloc (.cells #[.bool false, .slice none 0 0] 60)).heap.size (((w.alloc (.cells #[.bool s, .slice A ps.length ca] 60)).alloc (.cells #[.bool t, .slice B qs.length cb] 60)).alloc (.cells #[.bool false, .slice none 0 0] 60)) W) =>
    three_keep (three_begin0 (.bool s) (.slice A ps.length ca) (.bool t) (.slice B qs.length cb) (.bool false) (.slice none 0 0) 60 hA hB) hW
  have FF := Lib.hid F
  clear F
  generalize hW3 : (((w.alloc (.cells #[.bool s, .slice A ps.length ca] 60)).alloc (.cells #[.bool t, .slice B qs.length cb] 60)).alloc (.cells #[.bool false, .slice none 0 0] 60)) = W3 at FF
  go_enter Try.func40, Try.ntmps40
  go_wp2
  go_loopw [5, 6] (fun o i wr => ∃ k A2 cs cc, i = .int .i64 (k : Nat) ∧ o = .slice A2 cs.length cc ∧ Out W3 wr A2 cs (val (ps.take k) * b) ∧ k ≤ ps.length) (fun _ i _ => 1000 - (intOf i).toNat)
  case atStart => exact ⟨0, none, [], 0, rfl, rfl, by simpa [val] using Out.none W3, Nat.zero_le _⟩
  case round =>
    obtain ⟨k, A2, cs, cc, rfl, rfl, hO, hk⟩ := hrel
    have hcl : cs.length ≤ 64 := by
      have h1 := val_lt ha.dig
      have h2 := val_lt hb.dig
      have h3 := pw_mono la
      have h4 := pw_mono lb
      have h5 := (take_mul_lt (m := 20) (n := 20) ha.dig hb.dig (by omega) (by omega) k).2
      rw [hb.val] at h5
      have := hO.says.len h5
      omega
    obtain ⟨h1, h2, h3, h4, h5, h6, f1, f2, f3, f4, f5, f6, r1, r2, hs, hB0⟩ := FF.out wr hO.bel
    by_cases hp : k < ps.length
    · clear f1 f2 f3 f4 f5 f6 h5 h6
      go_wp2_with (at_make; refine make0 (w0 := wr) rfl _ _ rfl k rfl rfl (by omega) (Below.refl _ _) ?_; intro w1 hown hgrow)
      have hst := Times.start (ps.getD k 0) qs k
      go_loopw [7, 8, 9] (fun v c i wi => ∃ j row C, i = .int .i64 (j : Nat) ∧ c = .int .i64 C ∧ Times (ps.getD k 0) qs row k j C ∧ Own wr wi v row ∧ j ≤ qs.length + 1 ∧ (j = qs.length + 1 → C = 0)) (fun _ _ i _ => 1000 - (intOf i).toNat)
      case atStart => exact ⟨0, _, 0, rfl, rfl, hst, hown, by omega, by omega⟩
      case round =>
        obtain ⟨j, row, C, rfl, rfl, hT, hown2, hj, hj2⟩ := hrel
        obtain ⟨h1, h2, h3, h4, h5, h6, f1, f2, f3, f4, f5, f6, r1, r2, hs2, hB2⟩ := FF.out _ (hO.bel.trans (hown2.bel.mono hO.bel.size))
        have dA := ha.dig.at k
        have hSt := hT.step hb.dig dA.1 dA.2 (x := C + ps.getD k 0 * qs.getD j 0) rfl
        have hc0 := hT.c0
        have hc1 := hT.c1
        have hlen := hT.len
        have hdig := hT.dig
        have hDn : C = 0 → qs.length ≤ j → val row = pw k * (ps.getD k 0 * b) := fun h1 h2 => by subst h1; rw [hT.done h2, hb.val]
        have cA := r1.cell k hp
        have cB := r2.cell j
        have dB := hb.dig.at j
        have zB : qs.length ≤ j → qs.getD j 0 = 0 := fun h => by simp [h]
        have hms := mul_step ps qs k
        rw [hb.val] at hms
        rw [getD_q] at cA cB
        clear h5 h6 f1 f2 f3 f4 f5 f6 hst hown hgrow hT
        generalize ps.getD k 0 = x at *
        generalize qs.getD j 0 = y at *
        have hxy : 0 ≤ x * y ∧ x * y ≤ 4294836225 := ⟨Int.mul_nonneg dA.1 dB.1, Int.mul_le_mul dA.2 dB.2 dB.1 (by omega)⟩
        by_cases hx : j < qs.length ∨ 0 < C
        · clear hDn hms
          have hnext : j + 1 ≤ qs.length + 1 ∧ (j + 1 = qs.length + 1 → (C + x * y) / 65536 = 0) := by
            constructor
            · rcases Nat.lt_or_ge j (qs.length + 1) with h | h
              · omega
              · have := hj2 (by omega); omega
            · intro h
              rw [zB (by omega), Int.mul_zero]
              omega
          by_cases q1 : j < qs.length
          · obtain ⟨s1, s2, s3⟩ := hSt
            obtain ⟨e1, e2⟩ := quo16 s2
            have HP := Lib.hid s1
            clear s1
            obtain ⟨b1, o1, rfl, hb1, hc1'⟩ := cA
            obtain ⟨b2, o2, rfl, hb2, hc2'⟩ := cB q1
            go_wp2
            go_quiet (fail)
            have hown2 := hown2.drewN nq
            go_wp2_with (at_builtin; refine app1 rfl _ _ rfl _ _ rfl (hown2.alloc _) _ _ rfl (cell_new _ _ _) (by omega) ?_; intro v' w4 hown' hgrow')
            go_roundw
            case rel => exact ⟨j + 1, row ++ [(C + x * y) % 65536], (C + x * y) / 65536, by go_num, by simp [e1], HP.out, by simpa [e2] using hown', hnext.1, hnext.2⟩
            case measure => simp [intOf]; omega
          · obtain rfl : y = 0 := zB (by omega)
            simp only [Int.mul_zero, Int.add_zero] at hSt hnext
            obtain ⟨s1, s2, s3⟩ := hSt
            obtain ⟨e1, e2⟩ := quo16 s2
            have HP := Lib.hid s1
            have q3 : 0 < C := by omega
            clear s1 cA cB
            go_wp2_with (at_builtin; refine app1 rfl _ _ rfl _ _ rfl (hown2.alloc _) _ _ rfl (cell_new _ _ _) (by omega) ?_; intro v' w4 hown' hgrow')
            go_roundw
            case rel => exact ⟨j + 1, row ++ [C % 65536], C / 65536, by go_num, by simp [e1], HP.out, by simpa [e2] using hown', hnext.1, hnext.2⟩
            case measure => simp [intOf]; omega
        · have hv := hDn (by omega) (by omega)
          obtain rfl : C = 0 := by omega
          obtain ⟨C1, cap1, rfl, l1, l2, hR, hnew⟩ := hown2.read hdig
          have hbel := hown2.bel
          have q1 : ¬ j < qs.length := by omega
          have hL := hlen
          have HM := Lib.hid hms
          have hOr := hO.row.below hbel
          clear hDn hSt cA cB zB hlen hms
          have hrl : row.length ≤ 42 := by omega
          clear hL
          go_wp2_with (first
            | (go_at_call 49; ((with_reducible refine (trim_calls C1 row cap1 l1 l2 hdig _ hR).mono ?_); rintro e w5 ⟨m, rfl, hm, hval, htop, rfl⟩; have hml : m = (row.take m).length := (by rw [List.length_take, Nat.min_eq_left hm]); have hR5 := hR.take m; have hS5 : Says (row.take m) _ := ⟨hdig.take m, htop, hval.trans hv⟩; have hm42 := Nat.le_trans hm hrl; clear hval htop hm hv hR hdig l1 hrl hown2; generalize row.take m = rt at *; subst hml))
            | (go_at_call 48; ((with_reducible refine (plus_calls A2 C1 cs rt cc cap1 _ _ _ hOr hR5 hO.says hS5 hcl (by omega)).mono ?_); rintro e w6 ⟨A3, cs3, cc3, rfl, hO6⟩)))
          go_roundw
          case rel => exact ⟨k + 1, A3, cs3, cc3, by go_num, rfl, by rw [← HM.out]; exact hO6.from (hO.bel.trans (hbel.mono hO.bel.size)), by omega⟩
          case measure => simp [intOf]; omega
    · obtain rfl : k = ps.length := by omega
      have hv : val (ps.take ps.length) * b = a * b := by rw [List.take_length, ha.val]
      rw [hv] at hO
      have hx : (!(s == t)) = (s != t) := rfl
      go_wp2
      refine bodyPost_ret (v := .agg #[.bool (s != t), .slice A2 cs.length cc]) (by simp [results, Try.results40, go_sem, h5, h6]) rfl ⟨A2, cs, cc, rfl, ?_⟩
      subst hW3
      exact hO.store (by (repeat' (first | (with_reducible exact Below.refl _ _) | (with_reducible refine Below.drew ?_) | (with_reducible refine below_drewN ?_ _) | ((with_reducible refine Below.setCell ?_ ?side_ _); case side_ => (first | (with_reducible exact Nat.le_refl _) | (with_reducible assumption) | omega | (simp; done) | (simp; omega))) | ((with_reducible refine Below.alloc ?_ ?side_ _); case side_ => (first | (with_reducible exact Nat.le_refl _) | (with_reducible assumption) | omega | (simp; done) | (simp; omega)))))) (by omega) (by simp) _ _
end Go.Proofs.Ytdhhkabihmdbnaa.Ref
