/- Package ref01, walked: rows of digits that a call makes for itself; trim. For all rows. -/
import Derived.Test.YtngnkgnobgfjeaaDoorRefNum
import Derived.Test.YtngnkgnobgfjeaaDoorOpen
import Derived.LoopTactic
import Derived.Maps.AppendAt
import Derived.Test.YtngnkgnobgfjeaaDoorProg
import Derived.Below
import Derived.Deep.Draws
import Derived.OwnWalk
import Derived.Tactics
import Derived.WalkKit
import Derived.KernelRfl
import Derived.RowKit3
import Derived.Deep.QuietTactic
import Derived.BigQuiet
import Derived.WideLaws
import Derived.OpenShut
import Derived.Lib.Hide
import Derived.Laws.Externs
import Derived.Laws.Unary
namespace Go.Proofs.YtngnkgnobgfjeaaDoor.Ref
open Go Go.RowKit Open
set_option maxRecDepth 100000
set_option linter.unusedVariables false
set_option linter.unusedSimpArgs false

theorem info_int : (Tryd.prog.info? 3).map (fun i => (i.zero, i.size, i.bytes)) = some (some (.int .i64 0), 1, 8) := by kernel_rfl

/-- A row of numbers that the call made itself, above the blocks that there were. -/
structure Own (w0 w : World) (v : Value) (ds : List Int) : Prop where
  row : w.ownsRow w0.heap.size 3 1 v ds.length (ds.map (.int .i64))
  bel : Below w0.heap.size w0 w
theorem Own.nil {w0 w : World} (h : Below w0.heap.size w0 w) : Own w0 w (.slice none 0 0) [] := ⟨World.ownsRow_nil _ _ _ _, h⟩
theorem Own.alloc {w0 w : World} {v : Value} {ds : List Int} (h : Own w0 w v ds) (o : Obj) : Own w0 (w.alloc o) v ds := ⟨h.row.alloc o, h.bel.alloc h.bel.size o⟩
theorem addr_add (b k : Nat) : (⟨b, 0, none⟩ : Addr).add k = ⟨b, k, none⟩ := by unfold Addr.add; split <;> simp_all
/-- What it is, to a reader. -/
theorem Own.read {w0 w : World} {v : Value} {ds : List Int} (h : Own w0 w v ds) (hd : Dig ds) :
    ∃ A cap, v = .slice A ds.length cap ∧ ds.length ≤ cap ∧ cap ≤ maxLen ∧ IntRow w .i64 A ds ∧ ∀ a, A = some a → w0.heap.size ≤ a.block := by
  have hc := fun {g} (hg : v.ownBlock = some g) => h.row.cells hg
  have hlt := h.row.lt
  rcases h.row.2 with ⟨rfl, h0⟩ | ⟨g, cap, cur, rfl, hb, hg, h1, h2, _, _⟩
  · exact ⟨none, 0, by rw [h0], by omega, by unfold maxLen; omega, ⟨fun i hi => by omega, hd.wf⟩, fun a ha => by cases ha⟩
  · refine ⟨_, _, rfl, h1, h2, ⟨fun i hi => ⟨g, 0, rfl, (hlt g rfl).2, ?_⟩, hd.wf⟩, fun a ha => by cases ha; exact hb⟩
    have := hc (g := g) rfl i (.int .i64 (ds[i]?.getD 0)) (by simp [hi])
    rw [addr_add] at this
    rw [Nat.zero_add]; exact this
/-- append, of one number. -/
theorem app1 {w0 w : World} {ops : Array Oper} {rest : List Oper} {o : Oper} {a : Act} {Q : Exit → Act → World → Prop} (hgd : o.guard = none) (s x : Operand)
    (ho : o.op = .call { callee := .builtin .append, args := #[s, x], argTypes := #[36, 36] })
    (v : Value) (ds : List Int) (hs : a.eval s = v) (hown : Own w0 w v ds) (b : Nat) (z : Int) (hx : a.eval x = .slice (some ⟨b, 0, none⟩) 1 1) (hb : w.cell? ⟨b, 0, none⟩ = some (.int .i64 z)) (hlen : ds.length ≤ 1000000)
    (h : ∀ v' w', Own w0 w' v' (ds ++ [z]) → w.grownBy w' v.ownBlock → wpList Tryd.prog ops Q rest (a.put o.dst v') w') : wpList Tryd.prog ops Q (o :: rest) a w := by
  obtain ⟨i0, hi, hz0, hz1, hz2⟩ := info_parts info_int
  refine wpList_append_own _ hgd s x 36 ho w0.heap.size 3 i0 (.int .i64 0) 1 8 Tryd.underlying36 hi hz0 hz1 hz2 rfl (by decide) v ds.length _ hs hown.row ⟨b, 0, none⟩ 1 1 [.int .i64 z] hx rfl
    ?_ (ints_oneCell .i64 [z]) (by unfold maxLen; omega) (by omega) hown.bel.size ?_
  · intro j u hj
    match j, hj with
    | 0, hj => simp at hj; subst hj; rw [addr_add]; exact hb
  · intro v' w' h1 h2 _
    exact h v' w' ⟨by simpa using h1, hown.bel.grown h2 hown.bel.size (fun k hk => (hown.row.lt k hk).1)⟩ h2
theorem cell_new (w : World) (x : Value) (t : TypeId) : (w.alloc (.cells #[x] t)).cell? ⟨w.heap.size, 0, none⟩ = some x := by
  have := cell_one_new w x t 0 x rfl
  rwa [addr_add] at this

/-- What a function hands back: a row that says a number. -/
structure Out (w w' : World) (C : Option Addr) (cs : List Int) (n : Int) : Prop where
  row : IntRow w' .i64 C cs
  says : Says cs n
  bel : Below w.heap.size w w'
  new : ∀ a, C = some a → w.heap.size ≤ a.block

theorem _root_.Go.Proofs.YtngnkgnobgfjeaaDoor.Open.IntRow.take {w : World} {k : IntKind} {A : Option Addr} {ds : List Int} (h : IntRow w k A ds) (m : Nat) : IntRow w k A (ds.take m) :=
  ⟨fun i hi => by
    obtain ⟨b, off, e, hl, hc⟩ := h.cell i (by simp at hi; omega)
    refine ⟨b, off, e, hl, hc.trans ?_⟩
    have : i < m := by simp at hi; omega
    simp [this], fun z hz => h.wf z (List.mem_of_mem_take hz)⟩
theorem getD_q (ds : List Int) (k : Nat) : ds[k]?.getD 0 = ds.getD k 0 := by simp

set_option maxHeartbeats 2000000 in
/-- trim: without noughts ahead; nothing turns. -/
theorem trim_calls (A : Option Addr) (ds : List Int) (cap : Nat) (h1 : ds.length ≤ cap) (h2 : cap ≤ maxLen) (hd : Dig ds) (w : World) (hA : IntRow w .i64 A ds) :
    Calls Tryd.prog 25 #[.slice A ds.length cap] w fun e w' => ∃ m, e = .returned (.slice A m cap) ∧ m ≤ ds.length ∧ val (ds.take m) = val ds ∧ Top (ds.take m) ∧ w = w' := by
  unfold maxLen at h2
  go_enter Tryd.func25, Tryd.ntmps25
  go_wp2
  go_loop [0] (fun v => ∃ m, v = .slice A m cap ∧ m ≤ ds.length ∧ ∀ j, m ≤ j → j < ds.length → ds.getD j 0 = 0) (fun v => match v with | .slice _ m _ => m | _ => 0)
  case atStart => exact ⟨ds.length, rfl, Nat.le_refl _, fun j h1 h2 => by omega⟩
  case round =>
    obtain ⟨m, rfl, hm, hz⟩ := hrel
    have HZ := Lib.hid hz
    clear hz
    by_cases hp : 0 < m
    · obtain ⟨b, off, rfl, hb, hc⟩ := hA.cell (m - 1) (by omega)
      have hw := hd.at' (m - 1)
      have hG := Lib.hid (getD_q ds (m - 1))
      by_cases h0 : ds[m - 1]?.getD 0 = 0
      · have H0 := Lib.hid h0
        rw [h0] at hc
        clear h0 hw
        have e1 : off + (m - 1) = off + (m - 1) := rfl
        go_wp2
        go_round
        case rel => exact ⟨m - 1, by go_num, by omega, fun j h1 h2 => by
          rcases Nat.lt_or_ge j m with h3 | h3
          · obtain rfl : j = m - 1 := by omega
            rw [← hG.out, H0.out]
          · exact HZ.out j h3 h2⟩
        case measure => simp; omega
      · have H0 := Lib.hid h0
        generalize ds[m - 1]?.getD 0 = z at *
        go_wp2
        go_ret
        refine ⟨m, rfl, hm, val_take_zeros ds hm HZ.out, ?_, rfl⟩
        intro k hk
        rw [List.length_take, Nat.min_eq_left hm] at hk
        obtain rfl : k = m - 1 := by omega
        have : (ds.take m).getD (m - 1) 0 = ds.getD (m - 1) 0 := by simp [show m - 1 < m by omega]
        rw [this, ← hG.out]
        exact H0.out
    · obtain rfl : m = 0 := by omega
      go_wp2
      go_ret
      exact ⟨0, rfl, hm, val_take_zeros ds hm HZ.out, fun k hk => by simp at hk, rfl⟩
end Go.Proofs.YtngnkgnobgfjeaaDoor.Ref
