/- The law OpNames, walked: any number has the document's word, and any word its number, or none. In any world that holds the table. -/
import Derived.Test.YtpmfcedhmfgkiaaDoorOpNames1
namespace Go.Proofs.YtpmfcedhmfgkiaaDoor.Ops
open Go Go.RowKit
set_option maxRecDepth 100000
set_option linter.unusedVariables false
set_option linter.unusedSimpArgs false

set_option maxHeartbeats 8000000 in
theorem opnames_calls (o : Int) (b : ByteArray) (hb : b.size ≤ maxLen) (o0 : -9223372036854775808 ≤ o) (o1 : o ≤ 9223372036854775807) (w : World) (hk : Kinds w) :
    Calls Tryd.prog 10 #[.int .i64 o, .string b] w fun e w' => e = .returned (.bool true) ∧ Below w.heap.size w w' := by
  unfold maxLen at hb
  have WK := Lib.hid (fun (w1 : World) (hb : Below w.heap.size w w1) => wakes20_calls w1 (hk.below hb))
  by_cases hl : 100 < b.size
  · clear hk
    go_enter Tryd.func10, Tryd.ntmps10
    go_wp2_with (go_at_call 12; ((with_reducible refine (WK.out _ (by (repeat' (first | (with_reducible exact Below.refl _ _) | (with_reducible refine Below.drew ?_) | (with_reducible refine below_drewN ?_ _) | ((with_reducible refine Below.setCell ?_ ?side_ _); case side_ => (first | (with_reducible exact Nat.le_refl _) | (with_reducible assumption) | omega | (simp; done) | (simp; omega))) | ((with_reducible refine Below.alloc ?_ ?side_ _); case side_ => (first | (with_reducible exact Nat.le_refl _) | (with_reducible assumption) | omega | (simp; done) | (simp; omega))))))).mono ?_); rintro e w1 ⟨rfl, hb1⟩; obtain ⟨hc1, hf1⟩ := Eq.bcell hb1; (try simp only [World.size_drew] at hc1 hf1); have hq1 := hb1.size; (try simp at hq1); clear hq1; have HB1 : Below w.heap.size w w1 := (by have z_hb1 := hb1.size; (try simp at z_hb1); (repeat' (first | (with_reducible exact Below.refl _ _) | (with_reducible refine Below.drew ?_) | (with_reducible refine below_drewN ?_ _) | ((with_reducible refine Below.setCell ?_ ?side_ _); case side_ => (first | (with_reducible exact Nat.le_refl _) | (with_reducible assumption) | omega | (simp; done) | (simp; omega))) | ((with_reducible refine Below.alloc ?_ ?side_ _); case side_ => (first | (with_reducible exact Nat.le_refl _) | (with_reducible assumption) | omega | (simp; done) | (simp; omega))) | ((with_reducible refine Below.trans ?_ (hb1.mono ?side_)); case side_ => (first | (with_reducible exact Nat.le_refl _) | (with_reducible assumption) | omega | (simp; done) | (simp; omega))))))))
    go_ret
    exact ⟨rfl, HB1⟩
  · have OP := Lib.hid (fun (w1 : World) (hb : Below w.heap.size w w1) => opop_calls b w1 (hk.below hb))
    have NA := Lib.hid (fun (w1 : World) (hb : Below w.heap.size w w1) => name_calls o w1 (hk.below hb))
    have RO := Lib.hid (fun w => refop_calls b w)
    have RN := Lib.hid (fun w => refname_calls o w)
    have FB := findW_bd b
    have FE := fun h => findW_empty (b := b) h
    generalize findW b = F at *
    generalize nameB o = nm at *
    clear hk
    by_cases he : b.toList = []
    · obtain rfl : F = -1 := FE he
      rw [show max (-1 : Int) 0 = 0 by decide] at OP
      have he1 : (b.toList == []) = true := by rw [he]; rfl
      have he2 : b.toList.isEmpty = true := by rw [he]; rfl
      clear FE
      go_enter Tryd.func10, Tryd.ntmps10
      go_wp2_with (first
        | (go_at_call 12; ((with_reducible refine (WK.out _ (by (repeat' (first | (with_reducible exact Below.refl _ _) | (with_reducible refine Below.drew ?_) | (with_reducible refine below_drewN ?_ _) | ((with_reducible refine Below.setCell ?_ ?side_ _); case side_ => (first | (with_reducible exact Nat.le_refl _) | (with_reducible assumption) | omega | (simp; done) | (simp; omega))) | ((with_reducible refine Below.alloc ?_ ?side_ _); case side_ => (first | (with_reducible exact Nat.le_refl _) | (with_reducible assumption) | omega | (simp; done) | (simp; omega))))))).mono ?_); rintro e w1 ⟨rfl, hb1⟩; obtain ⟨hc1, hf1⟩ := Eq.bcell hb1; (try simp only [World.size_drew] at hc1 hf1); have hq1 := hb1.size; (try simp at hq1); clear hq1; have HB1 : Below w.heap.size w w1 := (by have z_hb1 := hb1.size; (try simp at z_hb1); (repeat' (first | (with_reducible exact Below.refl _ _) | (with_reducible refine Below.drew ?_) | (with_reducible refine below_drewN ?_ _) | ((with_reducible refine Below.setCell ?_ ?side_ _); case side_ => (first | (with_reducible exact Nat.le_refl _) | (with_reducible assumption) | omega | (simp; done) | (simp; omega))) | ((with_reducible refine Below.alloc ?_ ?side_ _); case side_ => (first | (with_reducible exact Nat.le_refl _) | (with_reducible assumption) | omega | (simp; done) | (simp; omega))) | ((with_reducible refine Below.trans ?_ (hb1.mono ?side_)); case side_ => (first | (with_reducible exact Nat.le_refl _) | (with_reducible assumption) | omega | (simp; done) | (simp; omega))))))))
        | (go_at_call 26; ((with_reducible refine (OP.out _ HB1).mono ?_); rintro e w2 ⟨rfl, hb2⟩; obtain ⟨hc2, hf2⟩ := Eq.bcell hb2; (try simp only [World.size_drew] at hc2 hf2); have hq2 := hb2.size; (try simp at hq2); clear hq2; have HB2 : Below w.heap.size w w2 := (by have z_hb1 := hb1.size; (try simp at z_hb1); have z_hb2 := hb2.size; (try simp at z_hb2); (repeat' (first | (with_reducible exact Below.refl _ _) | (with_reducible refine Below.drew ?_) | (with_reducible refine below_drewN ?_ _) | ((with_reducible refine Below.setCell ?_ ?side_ _); case side_ => (first | (with_reducible exact Nat.le_refl _) | (with_reducible assumption) | omega | (simp; done) | (simp; omega))) | ((with_reducible refine Below.alloc ?_ ?side_ _); case side_ => (first | (with_reducible exact Nat.le_refl _) | (with_reducible assumption) | omega | (simp; done) | (simp; omega))) | ((with_reducible refine Below.trans ?_ (hb1.mono ?side_)); case side_ => (first | (with_reducible exact Nat.le_refl _) | (with_reducible assumption) | omega | (simp; done) | (simp; omega))) | ((with_reducible refine Below.trans ?_ (hb2.mono ?side_)); case side_ => (first | (with_reducible exact Nat.le_refl _) | (with_reducible assumption) | omega | (simp; done) | (simp; omega))))))))
        | (go_at_call 27; ((with_reducible refine (RO.out _).mono ?_); rintro e w3 ⟨rfl, rfl⟩))
        | (go_at_call 28; ((with_reducible refine (NA.out _ HB2).mono ?_); rintro e w4 ⟨rfl, rfl⟩))
        | (go_at_call 17; ((with_reducible refine (RN.out _).mono ?_); rintro e w5 ⟨rfl, rfl⟩)))
      go_ret
      exact ⟨by simp, HB2⟩
    · have he1 : (b.toList == []) = false := by simpa using he
      have he2 : b.toList.isEmpty = false := by simpa using he
      clear FE he
      by_cases hF : 0 ≤ F
      · rw [decide_eq_true hF, show max F 0 = F by omega] at OP
        go_enter Tryd.func10, Tryd.ntmps10
        go_wp2_with (first
          | (go_at_call 12; ((with_reducible refine (WK.out _ (by (repeat' (first | (with_reducible exact Below.refl _ _) | (with_reducible refine Below.drew ?_) | (with_reducible refine below_drewN ?_ _) | ((with_reducible refine Below.setCell ?_ ?side_ _); case side_ => (first | (with_reducible exact Nat.le_refl _) | (with_reducible assumption) | omega | (simp; done) | (simp; omega))) | ((with_reducible refine Below.alloc ?_ ?side_ _); case side_ => (first | (with_reducible exact Nat.le_refl _) | (with_reducible assumption) | omega | (simp; done) | (simp; omega))))))).mono ?_); rintro e w1 ⟨rfl, hb1⟩; obtain ⟨hc1, hf1⟩ := Eq.bcell hb1; (try simp only [World.size_drew] at hc1 hf1); have hq1 := hb1.size; (try simp at hq1); clear hq1; have HB1 : Below w.heap.size w w1 := (by have z_hb1 := hb1.size; (try simp at z_hb1); (repeat' (first | (with_reducible exact Below.refl _ _) | (with_reducible refine Below.drew ?_) | (with_reducible refine below_drewN ?_ _) | ((with_reducible refine Below.setCell ?_ ?side_ _); case side_ => (first | (with_reducible exact Nat.le_refl _) | (with_reducible assumption) | omega | (simp; done) | (simp; omega))) | ((with_reducible refine Below.alloc ?_ ?side_ _); case side_ => (first | (with_reducible exact Nat.le_refl _) | (with_reducible assumption) | omega | (simp; done) | (simp; omega))) | ((with_reducible refine Below.trans ?_ (hb1.mono ?side_)); case side_ => (first | (with_reducible exact Nat.le_refl _) | (with_reducible assumption) | omega | (simp; done) | (simp; omega))))))))
          | (go_at_call 26; ((with_reducible refine (OP.out _ HB1).mono ?_); rintro e w2 ⟨rfl, hb2⟩; obtain ⟨hc2, hf2⟩ := Eq.bcell hb2; (try simp only [World.size_drew] at hc2 hf2); have hq2 := hb2.size; (try simp at hq2); clear hq2; have HB2 : Below w.heap.size w w2 := (by have z_hb1 := hb1.size; (try simp at z_hb1); have z_hb2 := hb2.size; (try simp at z_hb2); (repeat' (first | (with_reducible exact Below.refl _ _) | (with_reducible refine Below.drew ?_) | (with_reducible refine below_drewN ?_ _) | ((with_reducible refine Below.setCell ?_ ?side_ _); case side_ => (first | (with_reducible exact Nat.le_refl _) | (with_reducible assumption) | omega | (simp; done) | (simp; omega))) | ((with_reducible refine Below.alloc ?_ ?side_ _); case side_ => (first | (with_reducible exact Nat.le_refl _) | (with_reducible assumption) | omega | (simp; done) | (simp; omega))) | ((with_reducible refine Below.trans ?_ (hb1.mono ?side_)); case side_ => (first | (with_reducible exact Nat.le_refl _) | (with_reducible assumption) | omega | (simp; done) | (simp; omega))) | ((with_reducible refine Below.trans ?_ (hb2.mono ?side_)); case side_ => (first | (with_reducible exact Nat.le_refl _) | (with_reducible assumption) | omega | (simp; done) | (simp; omega))))))))
          | (go_at_call 27; ((with_reducible refine (RO.out _).mono ?_); rintro e w3 ⟨rfl, rfl⟩))
          | (go_at_call 28; ((with_reducible refine (NA.out _ HB2).mono ?_); rintro e w4 ⟨rfl, rfl⟩))
          | (go_at_call 17; ((with_reducible refine (RN.out _).mono ?_); rintro e w5 ⟨rfl, rfl⟩)))
        all_goals
          go_ret
          exact ⟨by simp, HB2⟩
      · obtain rfl : F = -1 := by omega
        rw [show max (-1 : Int) 0 = 0 by decide] at OP
        go_enter Tryd.func10, Tryd.ntmps10
        go_wp2_with (first
          | (go_at_call 12; ((with_reducible refine (WK.out _ (by (repeat' (first | (with_reducible exact Below.refl _ _) | (with_reducible refine Below.drew ?_) | (with_reducible refine below_drewN ?_ _) | ((with_reducible refine Below.setCell ?_ ?side_ _); case side_ => (first | (with_reducible exact Nat.le_refl _) | (with_reducible assumption) | omega | (simp; done) | (simp; omega))) | ((with_reducible refine Below.alloc ?_ ?side_ _); case side_ => (first | (with_reducible exact Nat.le_refl _) | (with_reducible assumption) | omega | (simp; done) | (simp; omega))))))).mono ?_); rintro e w1 ⟨rfl, hb1⟩; obtain ⟨hc1, hf1⟩ := Eq.bcell hb1; (try simp only [World.size_drew] at hc1 hf1); have hq1 := hb1.size; (try simp at hq1); clear hq1; have HB1 : Below w.heap.size w w1 := (by have z_hb1 := hb1.size; (try simp at z_hb1); (repeat' (first | (with_reducible exact Below.refl _ _) | (with_reducible refine Below.drew ?_) | (with_reducible refine below_drewN ?_ _) | ((with_reducible refine Below.setCell ?_ ?side_ _); case side_ => (first | (with_reducible exact Nat.le_refl _) | (with_reducible assumption) | omega | (simp; done) | (simp; omega))) | ((with_reducible refine Below.alloc ?_ ?side_ _); case side_ => (first | (with_reducible exact Nat.le_refl _) | (with_reducible assumption) | omega | (simp; done) | (simp; omega))) | ((with_reducible refine Below.trans ?_ (hb1.mono ?side_)); case side_ => (first | (with_reducible exact Nat.le_refl _) | (with_reducible assumption) | omega | (simp; done) | (simp; omega))))))))
          | (go_at_call 26; ((with_reducible refine (OP.out _ HB1).mono ?_); rintro e w2 ⟨rfl, hb2⟩; obtain ⟨hc2, hf2⟩ := Eq.bcell hb2; (try simp only [World.size_drew] at hc2 hf2); have hq2 := hb2.size; (try simp at hq2); clear hq2; have HB2 : Below w.heap.size w w2 := (by have z_hb1 := hb1.size; (try simp at z_hb1); have z_hb2 := hb2.size; (try simp at z_hb2); (repeat' (first | (with_reducible exact Below.refl _ _) | (with_reducible refine Below.drew ?_) | (with_reducible refine below_drewN ?_ _) | ((with_reducible refine Below.setCell ?_ ?side_ _); case side_ => (first | (with_reducible exact Nat.le_refl _) | (with_reducible assumption) | omega | (simp; done) | (simp; omega))) | ((with_reducible refine Below.alloc ?_ ?side_ _); case side_ => (first | (with_reducible exact Nat.le_refl _) | (with_reducible assumption) | omega | (simp; done) | (simp; omega))) | ((with_reducible refine Below.trans ?_ (hb1.mono ?side_)); case side_ => (first | (with_reducible exact Nat.le_refl _) | (with_reducible assumption) | omega | (simp; done) | (simp; omega))) | ((with_reducible refine Below.trans ?_ (hb2.mono ?side_)); case side_ => (first | (with_reducible exact Nat.le_refl _) | (with_reducible assumption) | omega | (simp; done) | (simp; omega))))))))
          | (go_at_call 27; ((with_reducible refine (RO.out _).mono ?_); rintro e w3 ⟨rfl, rfl⟩))
          | (go_at_call 28; ((with_reducible refine (NA.out _ HB2).mono ?_); rintro e w4 ⟨rfl, rfl⟩))
          | (go_at_call 17; ((with_reducible refine (RN.out _).mono ?_); rintro e w5 ⟨rfl, rfl⟩)))
        all_goals
          go_ret
          exact ⟨by simp, HB2⟩
end Go.Proofs.YtpmfcedhmfgkiaaDoor.Ops
