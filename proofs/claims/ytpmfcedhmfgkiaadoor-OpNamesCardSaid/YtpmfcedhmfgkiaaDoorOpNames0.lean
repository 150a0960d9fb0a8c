/- Package op's Op and Name, and ref20's Op, and the law OpNames, walked. In any world that holds the table. -/
import Derived.Test.YtpmfcedhmfgkiaaDoorOpAll
import Derived.LoopTactic
namespace Go.Proofs.YtpmfcedhmfgkiaaDoor.Ops
open Go Go.RowKit Go.Shelf Range
set_option maxRecDepth 100000
set_option linter.unusedVariables false
set_option linter.unusedSimpArgs false
attribute [local go_sem] Oper.semAt_some

/-- The first place, from i on, at most n further, at which p holds; else -1. -/
def fv (p : Nat → Bool) : Nat → Nat → Int
  | _, 0 => -1
  | i, n + 1 => if p i = true then (i : Int) else fv p (i + 1) n
theorem fv_none {p : Nat → Bool} : ∀ {i n : Nat}, (∀ j, i ≤ j → j < i + n → p j = false) → fv p i n = -1
  | _, 0, _ => rfl
  | i, n + 1, h => by
    unfold fv
    rw [if_neg (by rw [h i (Nat.le_refl _) (by omega)]; decide)]
    exact fv_none (fun j h1 h2 => h j (by omega) (by omega))
theorem fv_some {p : Nat → Bool} {k : Nat} (hp : p k = true) : ∀ {i n : Nat}, (∀ j, i ≤ j → j < k → p j = false) → i ≤ k → k < i + n → fv p i n = k
  | _, 0, _, h1, h2 => by omega
  | i, n + 1, h, h1, h2 => by
    unfold fv
    by_cases e : i = k
    · subst e; rw [if_pos hp]
    · rw [if_neg (by rw [h i (Nat.le_refl _) (by omega)]; decide)]
      exact fv_some hp (fun j h3 h4 => h j (by omega) h4) (by omega) (by omega)
def isW (b : ByteArray) (k : Nat) : Bool := (wordB k).toList == b.toList
def findW (b : ByteArray) : Int := fv (isW b) 0 12
theorem findW_none {b : ByteArray} (h : ∀ j, j < 12 → isW b j = false) : findW b = -1 := fv_none (fun j _ h2 => h j (by omega))
theorem findW_some {b : ByteArray} {k : Nat} (hk : k < 12) (hp : isW b k = true) (h : ∀ j, j < k → isW b j = false) : findW b = k := fv_some hp (fun j _ h2 => h j h2) (Nat.zero_le _) (by omega)
theorem findW_empty {b : ByteArray} (h : b.toList = []) : findW b = -1 := findW_none fun j hj => by
  unfold isW; rw [h]
  have := nameB_emp (j : Int)
  rw [name_word j hj, decide_eq_true (by omega)] at this
  exact this
theorem findW_bd (b : ByteArray) : -1 ≤ findW b ∧ findW b ≤ 11 := by
  by_cases h : ∀ j, j < 12 → isW b j = false
  · rw [findW_none h]; decide
  · have : ∃ k, k < 12 ∧ isW b k = true ∧ ∀ j, j < k → isW b j = false := by
      have hex : ∃ k, k < 12 ∧ isW b k = true := by
        refine Classical.byContradiction fun hn => h fun j hj => ?_
        cases e : isW b j with
        | false => rfl
        | true => exact (hn ⟨j, hj, e⟩).elim
      have key : ∀ n, ∀ k, k < n → k < 12 → isW b k = true → ∃ k, k < 12 ∧ isW b k = true ∧ ∀ j, j < k → isW b j = false := by
        intro n
        induction n with
        | zero => intro k hk; omega
        | succ n ih =>
          intro k hk h12 hp
          by_cases hex2 : ∃ j, j < k ∧ isW b j = true
          · obtain ⟨j, hj, hpj⟩ := hex2
            exact ih j (by omega) (by omega) hpj
          · refine ⟨k, h12, hp, fun j hj => ?_⟩
            cases e : isW b j with
            | false => rfl
            | true => exact (hex2 ⟨j, hj, e⟩).elim
      obtain ⟨k, hk, hp⟩ := hex
      exact key (k + 1) k (by omega) hk hp
    obtain ⟨k, hk, hp, hl⟩ := this
    rw [findW_some hk hp hl]; omega

set_option maxHeartbeats 4000000 in
theorem refop_calls (b : ByteArray) (w : World) : Calls Tryd.prog 27 #[.string b] w fun e w' => e = .returned (.int .i64 (findW b)) ∧ w = w' := by
  obtain ⟨F, hF⟩ : ∃ F, findW b = F := ⟨_, rfl⟩
  rw [hF]
  have HF := Lib.hid hF
  clear hF
  have NM := Lib.hid (fun (k : Nat) (hk : k < 12) w => by have := refname_calls (k : Int) w; rw [name_word k hk] at this; exact this)
  go_enter Tryd.func27, Tryd.ntmps27
  go_wp2
  go_loop [3] (fun i => ∃ k : Nat, k ≤ 12 ∧ i = .int .i64 k ∧ ∀ j, j < k → isW b j = false) (fun i => 12 - (intOf i).toNat)
  case atStart => exact ⟨0, by omega, rfl, fun j hj => by omega⟩
  case round =>
    obtain ⟨k, hk, rfl, hno⟩ := hrel
    have HN := Lib.hid hno
    clear hno
    by_cases hlt : k < 12
    · have hn := Lib.hid (NM.out k hlt)
      by_cases hp : isW b k = true
      · obtain rfl : F = (k : Int) := by rw [← HF.out]; exact findW_some hlt hp HN.out
        clear HF NM
        unfold isW at hp
        generalize wordB k = nm at *
        go_wp2_with (go_at_call 17; ((with_reducible refine (hn.out _).mono ?_); rintro e w2 ⟨rfl, rfl⟩))
        go_ret
        exact ⟨rfl, rfl⟩
      · have hp' := Bool.eq_false_iff.2 hp
        have HP := Lib.hid hp'
        clear hp NM
        unfold isW at hp'
        generalize hnm : wordB k = nm at *
        clear hnm
        go_wp2_with (go_at_call 17; ((with_reducible refine (hn.out _).mono ?_); rintro e w2 ⟨rfl, rfl⟩))
        go_round
        case rel => exact ⟨k + 1, by omega, by go_num, fun j hj => by
          by_cases e : j = k
          · subst e; exact HP.out
          · exact HN.out j (by omega)⟩
        case measure => simp [intOf]; omega
    · obtain rfl : k = 12 := by omega
      obtain rfl : F = -1 := by rw [← HF.out]; exact findW_none HN.out
      clear HF NM
      go_wp2
      go_ret
      exact ⟨rfl, rfl⟩

theorem name_calls (o : Int) (w : World) (hk : Kinds w) : Calls Tryd.prog 28 #[.int .i64 o] w fun e w' => e = .returned (.string (nameB o)) ∧ w = w' := by
  by_cases h : 0 ≤ o ∧ o < 12
  · obtain ⟨n, rfl⟩ := Int.eq_ofNat_of_zero_le h.1
    have hn : n < 12 := by omega
    have e : nameB (n : Int) = wordB n := name_word n hn
    rw [e]
    refine name_in n hn _ w ?_
    have hl : n < Tab.kinds.length := hn
    have := (hk.2 n Tab.kinds[n] (List.getElem?_eq_getElem hl)).1
    unfold wordB
    simpa [List.getD, hl] using this
  · have e : nameB o = ⟨#[]⟩ := if_neg h
    rw [e]
    have R := fun w => right_calls o w
    rw [show decide (0 ≤ o ∧ o < 12) = false from decide_eq_false h] at R
    have RR := Lib.hid R
    clear R e h
    go_enter Tryd.func28, Tryd.ntmps28
    go_wp2_with (go_at_call 16; ((with_reducible refine (RR.out _).mono ?_); rintro e w1 ⟨rfl, rfl⟩))
    go_ret
    exact ⟨rfl, rfl⟩
end Go.Proofs.YtpmfcedhmfgkiaaDoor.Ops
