/- Package ref01's Sum, walked. For all rows of up to 100 numbers. -/
import Derived.Test.YtngnkgnobgfjeaaDoorRefEO
import Derived.Test.YtngnkgnobgfjeaaDoorRefC
import Derived.Deep.DrawnRows
import Derived.Deep.RegionWith
namespace Go.Proofs.YtngnkgnobgfjeaaDoor.Ref
open Go Go.RowKit Open
set_option maxRecDepth 100000
set_option linter.unusedVariables false
set_option linter.unusedSimpArgs false
attribute [local go_sem ↓] Go.wp_at_zero Go.wp_at_succ

def rsum : List Int → Int
  | [] => 0
  | a :: l => a + rsum l
theorem rsum_take {l : List Int} {k : Nat} (hk : k < l.length) : rsum (l.take (k + 1)) = rsum (l.take k) + l[k]?.getD 0 := by
  induction l generalizing k with
  | nil => simp at hk
  | cons a l ih =>
    cases k with
    | zero => simp [rsum]
    | succ k =>
      have := ih (k := k) (by simpa using hk)
      simp only [List.take_succ_cons, rsum, List.getElem?_cons_succ, this]; omega
theorem rsum_bd {l : List Int} (h : ∀ a ∈ l, -9223372036854775808 ≤ a ∧ a ≤ 9223372036854775807) : -9223372036854775808 * (l.length : Int) ≤ rsum l ∧ rsum l ≤ 9223372036854775807 * (l.length : Int) := by
  induction l with
  | nil => simp [rsum]
  | cons a l ih =>
    have h1 := h a (List.mem_cons_self ..)
    have h2 := ih fun b hb => h b (List.mem_cons_of_mem _ hb)
    simp only [rsum, List.length_cons]
    omega
/-- The box of the sum so far. -/
structure Box (w wr : World) (z : Int) (s : Bool) (C : Option Addr) (cs : List Int) (cc : Nat) (n : Int) : Prop where
  c0 : wr.cell? ⟨w.heap.size, 0, none⟩ = some (.bool s)
  c1 : wr.cell? ⟨w.heap.size, 1, none⟩ = some (.slice C cs.length cc)
  f0 : wr.frozen? ⟨w.heap.size, 0, none⟩ = false
  f1 : wr.frozen? ⟨w.heap.size, 1, none⟩ = false
  row : IntRow wr .i64 C cs
  says : Says cs n
  new : ∀ a, C = some a → w.heap.size + 1 ≤ a.block
  val : sg s n = z
  bel : Below w.heap.size w wr
  big : w.heap.size + 1 ≤ wr.heap.size
theorem Box.drew {w wr : World} {z : Int} {s : Bool} {C : Option Addr} {cs : List Int} {cc : Nat} {n : Int} (h : Box w wr z s C cs cc n) : Box w wr.drew z s C cs cc n :=
  ⟨h.c0, h.c1, h.f0, h.f1, ⟨h.row.cell, h.row.wf⟩, h.says, h.new, h.val, h.bel.drew, h.big⟩
/-- After a call: the box holds what the call told. -/
theorem Box.put {w w0 w1 w2 : World} {z z' : Int} {s r : Bool} {C D : Option Addr} {cs ds : List Int} {cc cd : Nat} {n m : Int} (h : Box w w0 z s C cs cc n) (h1 : Below w0.heap.size w0 w1) (ho : Out w1 w2 D ds m) (hv : sg r m = z') :
    Box w ((w2.setCell ⟨w.heap.size, 0, none⟩ (.bool r)).setCell ⟨w.heap.size, 1, none⟩ (.slice D ds.length cd)) z' r D ds cd m := by
  have hb := h1.trans (ho.bel.mono h1.size)
  have hb2 := h.big
  have hz := hb.size
  have k0 := (hb.cell (p := ⟨w.heap.size, 0, none⟩) (by show w.heap.size < _; omega)).trans h.c0
  have k1 := (hb.cell (p := ⟨w.heap.size, 1, none⟩) (by show w.heap.size < _; omega)).trans h.c1
  have g0 := (hb.frozen (p := ⟨w.heap.size, 0, none⟩) (by show w.heap.size < _; omega)).trans h.f0
  have g1 := (hb.frozen (p := ⟨w.heap.size, 1, none⟩) (by show w.heap.size < _; omega)).trans h.f1
  have hz1 := h1.size
  have hne : ∀ a, D = some a → a.block ≠ w.heap.size := fun a ha => by have := ho.new a ha; omega
  refine ⟨?_, ?_, ?_, ?_, (ho.row.set hne).set hne, ho.says, fun a ha => by have := ho.new a ha; omega, hv, ?_, ?_⟩
  · exact (World.cell?_setCell_other _ _ _ _ (by intro e; injection e with e1 e2; omega)).trans (World.cell?_setCell_same' _ _ _ (by rw [k0]; rfl))
  · exact World.cell?_setCell_same' _ _ _ (by rw [World.cell?_setCell_other _ _ _ _ (by intro e; injection e with e1 e2; omega), k1]; rfl)
  · simpa using g0
  · simpa using g1
  · exact ((h.bel.trans (hb.mono h.bel.size)).setCell (Nat.le_refl _) _).setCell (Nat.le_refl _) _
  · simp; omega
theorem sg_abs (s : Bool) (n : Int) (h : 0 ≤ n) : n ≤ (sg s n).natAbs := by cases s <;> simp [sg] <;> omega
theorem pw5 : pw 5 = 1208925819614629174706176 := by decide
theorem siz_sg (a : Int) : sg (decide (a < 0)) (siz a) = a := sg_siz a

set_option maxHeartbeats 4000000 in
theorem rsum_calls (A : Option Addr) (l : List Int) (cap : Nat) (w : World) (hA : IntRow w .i64 A l) (hl : l.length ≤ 100) :
    Calls Tryd.prog 6 #[.slice A l.length cap] w fun e w' => e = .returned (.tuple #[.int .i64 (fitV (rsum l)), .bool (fitB (rsum l))]) ∧ Below w.heap.size w w' := by
  have hbd : ∀ k, k ≤ l.length → -922337203685477580800 ≤ rsum (l.take k) ∧ rsum (l.take k) ≤ 922337203685477580800 := fun k hk => by
    have h := rsum_bd (l := l.take k) (fun a ha => by have := hA.wf a (List.mem_of_mem_take ha); exact Num.wf_i64 this)
    rw [List.length_take, Nat.min_eq_left hk] at h
    omega
  have HBD := Lib.hid hbd
  clear hbd
  go_enter Tryd.func6, Tryd.ntmps6
  go_wp2
  go_loopw [5] (fun i wr => ∃ k : Nat, k ≤ l.length ∧ i = .int .i64 (k : Int) ∧ ∃ s C cs cc n, Box w wr (rsum (l.take k)) s C cs cc n) (fun i _ => 200 - (intOf i).toNat)
  case atStart =>
    refine ⟨0, Nat.zero_le _, rfl, false, none, [], 0, 0, ?_⟩
    refine ⟨by simp [go_sem], by simp [go_sem], by simp [go_sem], by simp [go_sem], ⟨fun i hi => by simp at hi, fun z hz => by simp at hz⟩, Says.nil, (fun a ha => by cases ha), rfl, below_a1 _ _, by simp⟩
  case round =>
    obtain ⟨k, hk, rfl, s, C, cs, cc, n, hB⟩ := hrel
    by_cases hp : k < l.length
    · have hi0 : (0 : Int) ≤ (k : Int) := by omega
      have hi1 : (k : Int) < (l.length : Int) := by omega
      obtain ⟨b, off, rfl, hb, hc⟩ := (hA.below hB.bel).cell k hp
      have hx := Num.wf_i64 (hA.wf _ (List.getElem_mem hp))
      have hx' : l[k]?.getD 0 = l[k] := by simp [hp]
      rw [← hx'] at hx
      have hst := rsum_take hp
      obtain ⟨z0, z1⟩ := HBD.out k hk
      generalize hz : l[k]?.getD 0 = x at *
      have hn0 := hB.says.nonneg
      have hlen : cs.length ≤ 5 := hB.says.len (by rw [pw5]; have := sg_abs s n hn0; rw [hB.val] at this; omega)
      have O := Lib.hid (fun w => of_calls x hx.1 hx.2 w)
      have hsx : siz x ≤ 9223372036854775808 ∧ 0 ≤ siz x := by unfold siz; split <;> omega
      have D := Lib.hid (fun (t : Bool) (B : Option Addr) (qs : List Int) (cb : Nat) (w1 : World) (h1 : IntRow w1 .i64 C cs) (h2 : IntRow w1 .i64 B qs) (h3 : Says qs (siz x)) => add_calls s t C B cs qs cc cb n (siz x) w1 h1 h2 hB.says h3 (by omega) (by have := h3.len (m := 5) (by rw [pw5]; omega); omega))
      have HB := Lib.hid hB
      clear hx'
      obtain ⟨g0, g1, g2, g3⟩ := (⟨hB.c0, hB.c1, hB.f0, hB.f1⟩ : _ ∧ _ ∧ _ ∧ _)
      have hbig := hB.big
      have hrow := Lib.hid hB.row
      clear hz hB
      go_wp2
      go_region_with (first
          | (go_at_call 13; ((with_reducible refine (O.out _).mono ?_); rintro e w1 ⟨C1, cs1, cc1, rfl, ho1⟩; have hb1 := ho1.bel; have hK1 : IntRow w1 .i64 C cs := (show IntRow wr.drew .i64 C cs from ⟨hrow.out.cell, hrow.out.wf⟩).below hb1; obtain ⟨hc1, hf1⟩ := bcell hb1; have k0 := (hc1 w.heap.size 0 (by show _ < wr.heap.size; omega)).trans g0; have k1 := (hc1 w.heap.size 1 (by show _ < wr.heap.size; omega)).trans g1; have k2 := (hf1 w.heap.size 0 (by show _ < wr.heap.size; omega)).trans g2; have k3 := (hf1 w.heap.size 1 (by show _ < wr.heap.size; omega)).trans g3; clear hc1 hf1))
          | (go_at_call 12; ((with_reducible refine (D.out _ C1 cs1 cc1 _ hK1 ho1.row ho1.says).mono ?_); rintro e w2 ⟨r, E, ds, cd, m, rfl, ho2, hv⟩; obtain ⟨hc2, hf2⟩ := bcell ho2.bel; have hz1 := hb1.size; have m0 := (hc2 w.heap.size 0 (by show _ < w1.heap.size; exact Nat.lt_of_lt_of_le (show w.heap.size < wr.heap.size by omega) hz1)).trans k0; have m1 := (hc2 w.heap.size 1 (Nat.lt_of_lt_of_le (show w.heap.size < wr.heap.size by omega) hz1)).trans k1; have m2 := (hf2 w.heap.size 0 (Nat.lt_of_lt_of_le (show w.heap.size < wr.heap.size by omega) hz1)).trans k2; have m3 := (hf2 w.heap.size 1 (Nat.lt_of_lt_of_le (show w.heap.size < wr.heap.size by omega) hz1)).trans k3; clear hc2 hf2)))
      all_goals go_wp2
      all_goals go_roundw
      all_goals first
        | (show 200 - _ < 200 - _; simp [intOf]; omega)
        | exact ⟨k + 1, by omega, by go_num, r, E, ds, cd, m, (HB.out.drew).put hb1 ho2 (by rw [hv, hst, siz_sg, HB.out.val])⟩
    · obtain rfl : k = l.length := by omega
      obtain ⟨z0, z1⟩ := HBD.out _ (Nat.le_refl _)
      have hval := hB.val
      rw [List.take_length] at hval z0 z1
      have hn0 := hB.says.nonneg
      have hlen : cs.length ≤ 5 := hB.says.len (by rw [pw5]; have := sg_abs s n hn0; rw [hval] at this; omega)
      have P := Lib.hid (plain_calls s C cs cc n wr hB.row hB.says (by omega))
      rw [hval] at P
      obtain ⟨g0, g1, g2, g3⟩ := (⟨hB.c0, hB.c1, hB.f0, hB.f1⟩ : _ ∧ _ ∧ _ ∧ _)
      have hbel := hB.bel
      clear hB HBD z0 z1 hval hlen hn0
      go_wp2_with (go_at_call 14; ((with_reducible refine P.out.mono ?_); rintro e w1 ⟨rfl, hb1⟩))
      go_ret2
      exact ⟨rfl, hbel.trans (hb1.mono hbel.size)⟩
end Go.Proofs.YtngnkgnobgfjeaaDoor.Ref
