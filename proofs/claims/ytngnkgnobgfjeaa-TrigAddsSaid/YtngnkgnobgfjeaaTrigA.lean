/- Package trig, walked: sine and cosine are these words. For all arguments. -/
import Derived.Test.YtngnkgnobgfjeaaWideLaws
import Derived.LoopTactic
namespace Go.Proofs.Ytngnkgnobgfjeaa.Trig
open Go Go.RowKit Wide
set_option maxRecDepth 100000
set_option linter.unusedVariables false
set_option linter.unusedSimpArgs false

theorem fitV_ok (V : Int) : -9223372036854775808 ≤ fitV V ∧ fitV V ≤ 9223372036854775807 := by
  unfold fitV; split <;> omega
theorem md_ok (a b c : Int) : -9223372036854775808 ≤ mulDivV a b c ∧ mulDivV a b c ≤ 9223372036854775807 := by
  unfold mulDivV; split
  · omega
  · exact fitV_ok _
theorem do_ok (a b c d s : Int) : -9223372036854775808 ≤ dotV a b c d s ∧ dotV a b c d s ≤ 9223372036854775807 := by
  unfold dotV; split
  · exact fitV_ok _
  · omega
theorem wrap_ok (x : Int) : -9223372036854775808 ≤ wrap64 x ∧ wrap64 x ≤ 9223372036854775807 := by unfold wrap64; omega

def den (f : Int) (k : Nat) : Int := (2 * k + f) * (2 * k + f + 1)
/-- The sum so far, and the last term. -/
def T (first z f : Int) : Nat → Int × Int
  | 0 => (first, first)
  | k + 1 => (if (k + 1) % 2 = 1 then wrap64 ((T first z f k).1 - mulDivV (dotV (T first z f k).2 z 0 0 60) 1 (den f (k + 1))) else wrap64 ((T first z f k).1 + mulDivV (dotV (T first z f k).2 z 0 0 60) 1 (den f (k + 1))),
      mulDivV (dotV (T first z f k).2 z 0 0 60) 1 (den f (k + 1)))
def termsV (first z f : Int) : Int := dotV (T first z f 9).1 1 0 0 30
def serV (r : Int) : Int × Int :=
  (termsV (mulDivV r 3622009729038561421 11796480) (dotV (mulDivV r 3622009729038561421 11796480) (mulDivV r 3622009729038561421 11796480) 0 0 60) 0,
   termsV 1152921504606846976 (dotV (mulDivV r 3622009729038561421 11796480) (mulDivV r 3622009729038561421 11796480) 0 0 60) (-1))
def restV (r : Int) : Int × Int := if 2949120 < r then ((serV (5898240 - r)).2, (serV (5898240 - r)).1) else serV r
def turn (d : Int) : Int := d % 23592960
def bothV (d : Int) : Int × Int :=
  if turn d / 5898240 = 0 then restV (turn d % 5898240)
  else if turn d / 5898240 = 1 then ((restV (turn d % 5898240)).2, wrap64 (-(restV (turn d % 5898240)).1))
  else if turn d / 5898240 = 2 then (wrap64 (-(restV (turn d % 5898240)).1), wrap64 (-(restV (turn d % 5898240)).2))
  else (wrap64 (-(restV (turn d % 5898240)).2), (restV (turn d % 5898240)).1)
theorem T_ok {first z f : Int} (h0 : -9223372036854775808 ≤ first) (h1 : first ≤ 9223372036854775807) (k : Nat) :
    (-9223372036854775808 ≤ (T first z f k).1 ∧ (T first z f k).1 ≤ 9223372036854775807) ∧ -9223372036854775808 ≤ (T first z f k).2 ∧ (T first z f k).2 ≤ 9223372036854775807 := by
  cases k with
  | zero => exact ⟨⟨h0, h1⟩, h0, h1⟩
  | succ k =>
    refine ⟨?_, md_ok _ _ _⟩
    simp only [T]
    split <;> exact wrap_ok _
theorem termsV_ok (a b c : Int) : -9223372036854775808 ≤ termsV a b c ∧ termsV a b c ≤ 9223372036854775807 := do_ok _ _ _ _ _
theorem restV_ok (r : Int) : (-9223372036854775808 ≤ (restV r).1 ∧ (restV r).1 ≤ 9223372036854775807) ∧ -9223372036854775808 ≤ (restV r).2 ∧ (restV r).2 ≤ 9223372036854775807 := by
  unfold restV serV; split <;> exact ⟨termsV_ok _ _ _, termsV_ok _ _ _⟩

set_option maxHeartbeats 16000000 in
theorem terms_calls (first z f : Int) (h0 : -9223372036854775808 ≤ first) (h1 : first ≤ 9223372036854775807) (z0 : -9223372036854775808 ≤ z) (z1 : z ≤ 9223372036854775807) (hf : f = 0 ∨ f = -1) (w : World) :
    Calls Try.prog 56 #[.int .i64 first, .int .i64 z, .int .i64 f] w fun e w' => e = .returned (.int .i64 (termsV first z f)) ∧ Below w.heap.size w w' := by
  have hT := fun k => T_ok (z := z) (f := f) h0 h1 k
  have hS : ∀ k, T first z f (k + 1) = (if (k + 1) % 2 = 1 then wrap64 ((T first z f k).1 - mulDivV (dotV (T first z f k).2 z 0 0 60) 1 (den f (k + 1))) else wrap64 ((T first z f k).1 + mulDivV (dotV (T first z f k).2 z 0 0 60) 1 (den f (k + 1))),
      mulDivV (dotV (T first z f k).2 z 0 0 60) 1 (den f (k + 1))) := fun k => rfl
  have HT := Lib.hid hT
  have HS := Lib.hid hS
  have hE : termsV first z f = dotV (T first z f 9).1 1 0 0 30 := rfl
  rw [hE]
  clear hT hS hE
  go_enter Try.func56, Try.ntmps56
  go_wp2
  go_loopw [7, 8, 9] (fun s t i wr => ∃ k : Nat, k ≤ 9 ∧ i = .int .i64 ((k : Int) + 1) ∧ s = .int .i64 (T first z f k).1 ∧ t = .int .i64 (T first z f k).2 ∧ Below w.heap.size w wr) (fun _ _ i _ => 20 - (intOf i).toNat)
  case atStart => exact ⟨0, by omega, rfl, rfl, rfl, Below.refl _ _⟩
  case round =>
    obtain ⟨k, hk, rfl, rfl, rfl, hbel⟩ := hrel
    obtain ⟨t1, t2⟩ := HT.out k
    by_cases hp : k < 9
    · have hs := HS.out k
      have hsh := fun w => mulshift_calls (T first z f k).2 z 60 t2.1 t2.2 z0 z1 w
      have hu := do_ok (T first z f k).2 z 0 0 60
      generalize hp1 : T first z f (k + 1) = p1 at *
      generalize T first z f k = p at *
      generalize dotV p.2 z 0 0 60 = u at *
      have HSH := Lib.hid hsh
      have HN := Lib.hid hs
      have HP := Lib.hid hp1
      clear hsh hs HT HS hp1
      rcases hf with rfl | rfl
      · rcases (show k = 0 ∨ k = 1 ∨ k = 2 ∨ k = 3 ∨ k = 4 ∨ k = 5 ∨ k = 6 ∨ k = 7 ∨ k = 8 by omega) with rfl | rfl | rfl | rfl | rfl | rfl | rfl | rfl | rfl
        · go_wp2_with (first
            | (go_at_call 18; ((with_reducible refine (HSH.out _).mono ?_); rintro e w2 ⟨rfl, hb2⟩))
            | (go_at_call 14; ((with_reducible refine (muldiv_calls u 1 _ hu.1 hu.2 (by omega) (by omega) (by omega) (by omega) _).mono ?_); rintro e w3 ⟨rfl, hb3⟩; have hv := md_ok u 1 6)))
          go_roundw
          case rel => exact ⟨1, by omega, rfl, by rw [HP.out, HN.out]; rfl, by rw [HP.out, HN.out]; rfl, hbel.trans ((below_more hb2 hb3).mono hbel.size)⟩
          case measure => simp [intOf]
        · go_wp2_with (first
            | (go_at_call 18; ((with_reducible refine (HSH.out _).mono ?_); rintro e w2 ⟨rfl, hb2⟩))
            | (go_at_call 14; ((with_reducible refine (muldiv_calls u 1 _ hu.1 hu.2 (by omega) (by omega) (by omega) (by omega) _).mono ?_); rintro e w3 ⟨rfl, hb3⟩; have hv := md_ok u 1 20)))
          go_roundw
          case rel => exact ⟨2, by omega, rfl, by rw [HP.out, HN.out]; rfl, by rw [HP.out, HN.out]; rfl, hbel.trans ((below_more hb2 hb3).mono hbel.size)⟩
          case measure => simp [intOf]
        · go_wp2_with (first
            | (go_at_call 18; ((with_reducible refine (HSH.out _).mono ?_); rintro e w2 ⟨rfl, hb2⟩))
            | (go_at_call 14; ((with_reducible refine (muldiv_calls u 1 _ hu.1 hu.2 (by omega) (by omega) (by omega) (by omega) _).mono ?_); rintro e w3 ⟨rfl, hb3⟩; have hv := md_ok u 1 42)))
          go_roundw
          case rel => exact ⟨3, by omega, rfl, by rw [HP.out, HN.out]; rfl, by rw [HP.out, HN.out]; rfl, hbel.trans ((below_more hb2 hb3).mono hbel.size)⟩
          case measure => simp [intOf]
        · go_wp2_with (first
            | (go_at_call 18; ((with_reducible refine (HSH.out _).mono ?_); rintro e w2 ⟨rfl, hb2⟩))
            | (go_at_call 14; ((with_reducible refine (muldiv_calls u 1 _ hu.1 hu.2 (by omega) (by omega) (by omega) (by omega) _).mono ?_); rintro e w3 ⟨rfl, hb3⟩; have hv := md_ok u 1 72)))
          go_roundw
          case rel => exact ⟨4, by omega, rfl, by rw [HP.out, HN.out]; rfl, by rw [HP.out, HN.out]; rfl, hbel.trans ((below_more hb2 hb3).mono hbel.size)⟩
          case measure => simp [intOf]
        · go_wp2_with (first
            | (go_at_call 18; ((with_reducible refine (HSH.out _).mono ?_); rintro e w2 ⟨rfl, hb2⟩))
            | (go_at_call 14; ((with_reducible refine (muldiv_calls u 1 _ hu.1 hu.2 (by omega) (by omega) (by omega) (by omega) _).mono ?_); rintro e w3 ⟨rfl, hb3⟩; have hv := md_ok u 1 110)))
          go_roundw
          case rel => exact ⟨5, by omega, rfl, by rw [HP.out, HN.out]; rfl, by rw [HP.out, HN.out]; rfl, hbel.trans ((below_more hb2 hb3).mono hbel.size)⟩
          case measure => simp [intOf]
        · go_wp2_with (first
            | (go_at_call 18; ((with_reducible refine (HSH.out _).mono ?_); rintro e w2 ⟨rfl, hb2⟩))
            | (go_at_call 14; ((with_reducible refine (muldiv_calls u 1 _ hu.1 hu.2 (by omega) (by omega) (by omega) (by omega) _).mono ?_); rintro e w3 ⟨rfl, hb3⟩; have hv := md_ok u 1 156)))
          go_roundw
          case rel => exact ⟨6, by omega, rfl, by rw [HP.out, HN.out]; rfl, by rw [HP.out, HN.out]; rfl, hbel.trans ((below_more hb2 hb3).mono hbel.size)⟩
          case measure => simp [intOf]
        · go_wp2_with (first
            | (go_at_call 18; ((with_reducible refine (HSH.out _).mono ?_); rintro e w2 ⟨rfl, hb2⟩))
            | (go_at_call 14; ((with_reducible refine (muldiv_calls u 1 _ hu.1 hu.2 (by omega) (by omega) (by omega) (by omega) _).mono ?_); rintro e w3 ⟨rfl, hb3⟩; have hv := md_ok u 1 210)))
          go_roundw
          case rel => exact ⟨7, by omega, rfl, by rw [HP.out, HN.out]; rfl, by rw [HP.out, HN.out]; rfl, hbel.trans ((below_more hb2 hb3).mono hbel.size)⟩
          case measure => simp [intOf]
        · go_wp2_with (first
            | (go_at_call 18; ((with_reducible refine (HSH.out _).mono ?_); rintro e w2 ⟨rfl, hb2⟩))
            | (go_at_call 14; ((with_reducible refine (muldiv_calls u 1 _ hu.1 hu.2 (by omega) (by omega) (by omega) (by omega) _).mono ?_); rintro e w3 ⟨rfl, hb3⟩; have hv := md_ok u 1 272)))
          go_roundw
          case rel => exact ⟨8, by omega, rfl, by rw [HP.out, HN.out]; rfl, by rw [HP.out, HN.out]; rfl, hbel.trans ((below_more hb2 hb3).mono hbel.size)⟩
          case measure => simp [intOf]
        · go_wp2_with (first
            | (go_at_call 18; ((with_reducible refine (HSH.out _).mono ?_); rintro e w2 ⟨rfl, hb2⟩))
            | (go_at_call 14; ((with_reducible refine (muldiv_calls u 1 _ hu.1 hu.2 (by omega) (by omega) (by omega) (by omega) _).mono ?_); rintro e w3 ⟨rfl, hb3⟩; have hv := md_ok u 1 342)))
          go_roundw
          case rel => exact ⟨9, by omega, rfl, by rw [HP.out, HN.out]; rfl, by rw [HP.out, HN.out]; rfl, hbel.trans ((below_more hb2 hb3).mono hbel.size)⟩
          case measure => simp [intOf]
      · rcases (show k = 0 ∨ k = 1 ∨ k = 2 ∨ k = 3 ∨ k = 4 ∨ k = 5 ∨ k = 6 ∨ k = 7 ∨ k = 8 by omega) with rfl | rfl | rfl | rfl | rfl | rfl | rfl | rfl | rfl
        · go_wp2_with (first
            | (go_at_call 18; ((with_reducible refine (HSH.out _).mono ?_); rintro e w2 ⟨rfl, hb2⟩))
            | (go_at_call 14; ((with_reducible refine (muldiv_calls u 1 _ hu.1 hu.2 (by omega) (by omega) (by omega) (by omega) _).mono ?_); rintro e w3 ⟨rfl, hb3⟩; have hv := md_ok u 1 2)))
          go_roundw
          case rel => exact ⟨1, by omega, rfl, by rw [HP.out, HN.out]; rfl, by rw [HP.out, HN.out]; rfl, hbel.trans ((below_more hb2 hb3).mono hbel.size)⟩
          case measure => simp [intOf]
        · go_wp2_with (first
            | (go_at_call 18; ((with_reducible refine (HSH.out _).mono ?_); rintro e w2 ⟨rfl, hb2⟩))
            | (go_at_call 14; ((with_reducible refine (muldiv_calls u 1 _ hu.1 hu.2 (by omega) (by omega) (by omega) (by omega) _).mono ?_); rintro e w3 ⟨rfl, hb3⟩; have hv := md_ok u 1 12)))
          go_roundw
          case rel => exact ⟨2, by omega, rfl, by rw [HP.out, HN.out]; rfl, by rw [HP.out, HN.out]; rfl, hbel.trans ((below_more hb2 hb3).mono hbel.size)⟩
          case measure => simp [intOf]
        · go_wp2_with (first
            | (go_at_call 18; ((with_reducible refine (HSH.out _).mono ?_); rintro e w2 ⟨rfl, hb2⟩))
            | (go_at_call 14; ((with_reducible refine (muldiv_calls u 1 _ hu.1 hu.2 (by omega) (by omega) (by omega) (by omega) _).mono ?_); rintro e w3 ⟨rfl, hb3⟩; have hv := md_ok u 1 30)))
          go_roundw
          case rel => exact ⟨3, by omega, rfl, by rw [HP.out, HN.out]; rfl, by rw [HP.out, HN.out]; rfl, hbel.trans ((below_more hb2 hb3).mono hbel.size)⟩
          case measure => simp [intOf]
        · go_wp2_with (first
            | (go_at_call 18; ((with_reducible refine (HSH.out _).mono ?_); rintro e w2 ⟨rfl, hb2⟩))
            | (go_at_call 14; ((with_reducible refine (muldiv_calls u 1 _ hu.1 hu.2 (by omega) (by omega) (by omega) (by omega) _).mono ?_); rintro e w3 ⟨rfl, hb3⟩; have hv := md_ok u 1 56)))
          go_roundw
          case rel => exact ⟨4, by omega, rfl, by rw [HP.out, HN.out]; rfl, by rw [HP.out, HN.out]; rfl, hbel.trans ((below_more hb2 hb3).mono hbel.size)⟩
          case measure => simp [intOf]
        · go_wp2_with (first
            | (go_at_call 18; ((with_reducible refine (HSH.out _).mono ?_); rintro e w2 ⟨rfl, hb2⟩))
            | (go_at_call 14; ((with_reducible refine (muldiv_calls u 1 _ hu.1 hu.2 (by omega) (by omega) (by omega) (by omega) _).mono ?_); rintro e w3 ⟨rfl, hb3⟩; have hv := md_ok u 1 90)))
          go_roundw
          case rel => exact ⟨5, by omega, rfl, by rw [HP.out, HN.out]; rfl, by rw [HP.out, HN.out]; rfl, hbel.trans ((below_more hb2 hb3).mono hbel.size)⟩
          case measure => simp [intOf]
        · go_wp2_with (first
            | (go_at_call 18; ((with_reducible refine (HSH.out _).mono ?_); rintro e w2 ⟨rfl, hb2⟩))
            | (go_at_call 14; ((with_reducible refine (muldiv_calls u 1 _ hu.1 hu.2 (by omega) (by omega) (by omega) (by omega) _).mono ?_); rintro e w3 ⟨rfl, hb3⟩; have hv := md_ok u 1 132)))
          go_roundw
          case rel => exact ⟨6, by omega, rfl, by rw [HP.out, HN.out]; rfl, by rw [HP.out, HN.out]; rfl, hbel.trans ((below_more hb2 hb3).mono hbel.size)⟩
          case measure => simp [intOf]
        · go_wp2_with (first
            | (go_at_call 18; ((with_reducible refine (HSH.out _).mono ?_); rintro e w2 ⟨rfl, hb2⟩))
            | (go_at_call 14; ((with_reducible refine (muldiv_calls u 1 _ hu.1 hu.2 (by omega) (by omega) (by omega) (by omega) _).mono ?_); rintro e w3 ⟨rfl, hb3⟩; have hv := md_ok u 1 182)))
          go_roundw
          case rel => exact ⟨7, by omega, rfl, by rw [HP.out, HN.out]; rfl, by rw [HP.out, HN.out]; rfl, hbel.trans ((below_more hb2 hb3).mono hbel.size)⟩
          case measure => simp [intOf]
        · go_wp2_with (first
            | (go_at_call 18; ((with_reducible refine (HSH.out _).mono ?_); rintro e w2 ⟨rfl, hb2⟩))
            | (go_at_call 14; ((with_reducible refine (muldiv_calls u 1 _ hu.1 hu.2 (by omega) (by omega) (by omega) (by omega) _).mono ?_); rintro e w3 ⟨rfl, hb3⟩; have hv := md_ok u 1 240)))
          go_roundw
          case rel => exact ⟨8, by omega, rfl, by rw [HP.out, HN.out]; rfl, by rw [HP.out, HN.out]; rfl, hbel.trans ((below_more hb2 hb3).mono hbel.size)⟩
          case measure => simp [intOf]
        · go_wp2_with (first
            | (go_at_call 18; ((with_reducible refine (HSH.out _).mono ?_); rintro e w2 ⟨rfl, hb2⟩))
            | (go_at_call 14; ((with_reducible refine (muldiv_calls u 1 _ hu.1 hu.2 (by omega) (by omega) (by omega) (by omega) _).mono ?_); rintro e w3 ⟨rfl, hb3⟩; have hv := md_ok u 1 306)))
          go_roundw
          case rel => exact ⟨9, by omega, rfl, by rw [HP.out, HN.out]; rfl, by rw [HP.out, HN.out]; rfl, hbel.trans ((below_more hb2 hb3).mono hbel.size)⟩
          case measure => simp [intOf]
    · obtain rfl : k = 9 := by omega
      have hsh := Lib.hid (fun w => mulshift_calls (T first z f 9).1 1 30 t1.1 t1.2 (by omega) (by omega) w)
      clear HT HS
      go_wp2_with (go_at_call 18; ((with_reducible refine (hsh.out _).mono ?_); rintro e w2 ⟨rfl, hb2⟩))
      go_ret
      exact ⟨rfl, hbel.trans (hb2.mono hbel.size)⟩
end Go.Proofs.Ytngnkgnobgfjeaa.Trig
