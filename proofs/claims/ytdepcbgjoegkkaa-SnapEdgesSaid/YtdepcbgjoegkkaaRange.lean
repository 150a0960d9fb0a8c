/- A range over a function, at the wide fence: the caller's law with the frame behind the assignment reckoned by itself; words on what a round keeps. Over any program. -/
import Derived.RangeFuncNested
import Derived.RangeFuncBound
import Derived.RangeFuncCalls
import Derived.RangeFuncLeaves
import Derived.Shelf.Abstract
import Derived.Shelf.RegionOpen
import Derived.WalkKit
import Derived.OwnWalkIn
import Derived.TacticsInMore
import Derived.LoopNIn
import Derived.LoopIn
import Derived.Maps.AppendAt
import Derived.Laws.Rows
import Derived.Test.YtdepcbgjoegkkaaEq
namespace Go.Proofs.Ytdepcbgjoegkkaa.Range
open Go Go.RowKit Go.Shelf
set_option linter.unusedVariables false

section
variable {B : Nat} {a w w1 : World}
theorem kf_alloc {o : Obj} (h : KeepsFrom B a w) : KeepsFrom B a (w.alloc o) := h.trans ((KeepsOthers.alloc _ _).from _)
theorem kf_set (h : KeepsFrom B a w) (p : Addr) (u : Value) : KeepsFrom B a (w.setCell p u) := h.trans ((KeepsOthers.setCell _ _ _).from _)
theorem kf_drew (h : KeepsFrom B a w) : KeepsFrom B a w.drew := h.trans ((KeepsOthers.drew _).from _)
theorem kf_drewN (h : KeepsFrom B a w) (n : Nat) : KeepsFrom B a (w.drewN n) := h.trans ⟨Nat.le_refl _, fun _ _ _ h _ => h⟩
theorem kf_below (h : KeepsFrom B a w) (hb : Below w.heap.size w w1) : KeepsFrom B a w1 :=
  h.trans ⟨hb.size, fun k o _ hk _ => (hb.block k (Array.getElem?_eq_some_iff.1 hk).1).trans hk⟩
/-- What writes but blocks of cells, at or beyond a bound. -/
theorem kf_grown (h : KeepsFrom B a w) {r : Option Nat} (hg : w.grownBy w1 r) (hr : ∀ k, r = some k → ∃ cs t f, w.heap[k]? = some (.cells cs t f)) : KeepsFrom B a w1 :=
  h.trans ⟨hg.size, fun k o _ hk ho => by
    refine (hg.block k (Array.getElem?_eq_some_iff.1 hk).1 (fun e => ?_)).trans hk
    obtain ⟨cs, t, f, h1⟩ := hr k e.symm
    rw [hk] at h1; cases h1; cases ho⟩
end

variable {P : Program}
/-- The caller's law: the frame behind the assignment is f x of the frame ahead of the loop. -/
theorem range_own {α : Type} {g : Operand} {ps : Array Tmp} {assign body : Code} {Q : Exit → Act → World → Prop} {tmps : Array Value} {defers : List Deferred} {w : World}
    {gf : Nat} {lb : Array Value} (hg : (⟨tmps, defers⟩ : Act).eval g = .func (.func gf) #[] lb) (eg : ∀ args w, (callFunc gf args).run P w = .ok (.enter gf args) w)
    {encs : α → Array Value} {n₀ : Nat} {S Sp : List α → Prop} {N : Nat} {w0 : World} (hseq : SeqStopsK Fence.wide 99 P gf lb encs (Below n₀) S Sp N w0) (hn : n₀ ≤ w.heap.size) (hb0 : Below w0.heap.size w0 w) (hps : ∀ x, (encs x).size = ps.size)
    (I : List α → World → Prop) (Ix : Code → List α → World → Prop) (hI : OwnFrom w.heap.size I) (hIx : ∀ c, OwnFrom w.heap.size (Ix c)) (h0 : I [] w) (f : α → Array Value → Array Value)
    (hassign : ∀ (l : Nat) (x : α) (W : World) (K : Act → World → Prop), K { tmps := f x tmps, defers := [] } W →
      assign.wpIn (Fence.wide.inRound l) 98 P (Exit.then K (fun _ _ _ => False)) { tmps := (ps.zip (encs x)).foldl (fun t (p, v) => t.setIfInBounds p v) tmps, defers := [] } W)
    (hbody : ∀ (l : Nat) (pre : List α) (x : α) (W : World), w.heap.size ≤ l → (∃ r, W.heap[l]? = some (.loop r)) → I pre W → pre.length < N → body.wpIn (Fence.wide.inRound l) 98 P (ownPostG w.heap.size (Below n₀) I Ix (pre ++ [x]) W) { tmps := f x tmps, defers := [] } W)
    (hdone : ∀ (D : Nat) (xs : List α) (W : World), w.heap.size ≤ D → S xs → I xs W → W.heap[D]? = some (.deferred (some [])) → Q .normal { tmps := tmps, defers := { target := .collected D, args := #[] } :: defers } W)
    (hstop : ∀ (D : Nat) (c : Code) (pre : List α) (W : World), w.heap.size ≤ D → Sp pre → Ix c pre W → W.heap[D]? = some (.deferred (some [])) → c.wpIn Fence.wide 100 P Q { tmps := tmps, defers := { target := .collected D, args := #[] } :: defers } W) :
    (Code.rangeFunc g ps assign body).wpIn Fence.wide 100 P Q { tmps := tmps, defers := defers } w :=
  wpIn_rangeFunc_ownH (F := Fence.wide) (n := 100) rfl (by decide) hg trivial eg hseq belowK_t (belowK_b hn) hb0 hps I Ix hI hIx h0
    (fun x a' _ => a' = { tmps := f x tmps, defers := [] }) (fun _ _ _ _ _ _ hs _ _ => hs)
    (fun l _ x W K hi hK => hassign l x W K (hK _ _ (KeepsFrom.refl _ _) (Below.refl _ _) hi rfl))
    (fun l pre x a' W hl hr hi ha hlt => by subst ha; exact hbody l pre x W hl hr hi hlt)
    hdone hstop
theorem of_wide {f : FuncId} {args : Array Value} {w : World} {R : Ending → World → Prop} (h : CallsIn Fence.wide 100 P f args w R) : Calls P f args w R := callsIn_wide.1 h
theorem to_wide {n : Nat} {f : FuncId} {args : Array Value} {w : World} {R : Ending → World → Prop} (h : Calls P f args w R) : CallsIn Fence.wide n P f args w R := callsIn_wide.2 h
theorem in_round {n l : Nat} {f : FuncId} {args : Array Value} {w : World} {R : Ending → World → Prop} (h : Calls P f args w R) : CallsIn (Fence.wide.inRound l) n P f args w R := CallsIn.inRound l (callsIn_wide.2 h)
theorem equalIn_func_nil {t : TypeId} {a b : Array TypeId} {c : Bool} (h : P.underlying t = some (.func a b c)) (d : Nat) (f : Fn) (x y : Array Value) (w : World) :
    (Op.equalIn (d + 1) t (.func f x y) .nilFunc).run P w = .ok false w := by simp [Op.equalIn, run_underlying h]
/-- 'seq != nil' -/
theorem neq_func_nil {t : TypeId} {a b : Array TypeId} {c : Bool} (h : P.underlying t = some (.func a b c)) (f : Fn) (x y : Array Value) (w : World) :
    (binOp .neq t (.func f x y) .nilFunc).run P w = .ok (.bool true) w := by
  simp only [binOp]
  simp [Op.equal, Op.maxDepth, equalIn_func_nil h 9999 f x y w]
/-- A fact on a cell is abided. -/
theorem own_cell {β : Type} (a : Addr) (v : β → Value) : Own (fun s W => W.cell? a = some (v s)) := fun _ _ _ _ hs hg hr => cell_kept hs hg hr

/-- A whole array, read out of the cells of a variable. -/
theorem run_load_cells (w : World) (g : Nat) (ty : TypeId) (cs : List Value) (d : TypeDesc) (hg : ∀ j v, cs[j]? = some v → w.cell? ⟨g, j, none⟩ = some v)
    (hu : P.underlying ty = some d) (hd : (match d with | .struct _ | .array _ _ => true | _ => false) = true) (hi : (P.info? ty).map (·.size) = some cs.length) :
    (loadVar ty ⟨g, 0, none⟩).run P w = .ok (.agg cs.toArray) w := by
  have hl : (loadCells ⟨g, 0, none⟩ cs.length).run P w = .ok cs.toArray w :=
    run_loadCells_list (P := P) w ⟨g, 0, none⟩ cs (fun j v hv => by
      have hadd : (⟨g, 0, none⟩ : Addr).add j = ⟨g, j, none⟩ := by unfold Addr.add; split <;> simp_all
      rw [hadd]; exact hg j v hv)
  cases hq : P.info? ty with
  | none => simp [hq] at hi
  | some i =>
    have hs : i.size = cs.length := by simpa [hq] using hi
    have hagg : (isAgg ty).run P w = .ok true w := by
      unfold isAgg
      rw [Sem.run_bind, run_underlying hu w]
      cases d <;> simp_all
    simp [loadVar, Sem.run_bind, hagg, sizeOf, typeInfo, hq, hs, hl]
theorem load_cells_in {F : Fence} {n : Nat} {ops : Array Oper} {rest : List Oper} {o : Oper} {a : Act} {w : World} {Q : Exit → Act → World → Prop} (hro : F.round = none) (hgd : o.guard = none) (ty : TypeId) (x : Operand) (ho : o.op = .load ty x)
    (g : Nat) (hx : a.eval x = .pointer (some ⟨g, 0, none⟩)) (cs : List Value) (d : TypeDesc) (hg : ∀ j v, cs[j]? = some v → w.cell? ⟨g, j, none⟩ = some v)
    (hu : P.underlying ty = some d) (hd : (match d with | .struct _ | .array _ _ => true | _ => false) = true) (hi : (P.info? ty).map (·.size) = some cs.length)
    (h : wpListIn F n P ops Q rest (a.put o.dst (.agg cs.toArray)) w) : wpListIn F n P ops Q (o :: rest) a w := by
  refine wpListIn_plain hgd fun K hK => ⟨fun f hf => ?_, ?_⟩
  · simp [Oper.about, ho] at hf
  · unfold Oper.semAt execOp
    simp only [hro, ho, hx, Instr.loadAt, Instr.sureAddr, Sem.run_bind, Sem.run_pure, Result.andThen_ok, run_load_cells w g ty cs d hg hu hd hi]
    exact hK _ _ h
end Go.Proofs.Ytdepcbgjoegkkaa.Range
