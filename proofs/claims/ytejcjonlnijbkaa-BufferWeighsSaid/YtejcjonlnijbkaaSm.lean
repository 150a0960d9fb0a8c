/- Words on '==' of structs and arrays of numbers, as one Bool. Over any program. -/
import Derived.Laws.StructEq
import Derived.ChangeKeysEq
import Derived.WalkKit
import Derived.Deep.QuietTactic
import Derived.IntWalk
import Derived.Below
import Derived.StillTailTactics
import Derived.RangeFuncNested
import Derived.RangeFuncBound
import Derived.RangeFuncCalls
import Derived.RangeFuncLeaves
import Derived.Shelf.Abstract
import Derived.Shelf.RegionOpen
import Derived.OwnWalkIn
import Derived.TacticsInMore
import Derived.LoopNIn
import Derived.LoopIn
import Derived.Maps.AppendAt
import Derived.Laws.Rows
namespace Go.Proofs.Ytejcjonlnijbkaa.Eq
open Go Go.RowKit
theorem bcell {W w1 : World} (hb : Below W.heap.size W w1) : (∀ b o, b < W.heap.size → w1.cell? ⟨b, o, none⟩ = W.cell? ⟨b, o, none⟩) ∧ (∀ b o, b < W.heap.size → w1.frozen? ⟨b, o, none⟩ = W.frozen? ⟨b, o, none⟩) :=
  ⟨fun b o h => hb.cell (p := ⟨b, o, none⟩) h, fun b o h => hb.frozen (p := ⟨b, o, none⟩) h⟩
end Go.Proofs.Ytejcjonlnijbkaa.Eq

/- A range over a function, at the wide fence: the caller's law with the frame behind the assignment reckoned by itself; words on what a round keeps. Over any program. -/
namespace Go.Proofs.Ytejcjonlnijbkaa.Range
open Go Go.RowKit Go.Shelf
set_option linter.unusedVariables false

variable {P : Program}
/-- The caller's law: the frame behind the assignment is f x of the frame ahead of the loop. -/
theorem range_own {α : Type} {g : Operand} {ps : Array Tmp} {assign body : Code} {Q : Exit → Act → World → Prop} {tmps : Array Value} {defers : List Deferred} {w : World}
    {gf : Nat} {lb : Array Value} (hg : (⟨tmps, defers⟩ : Act).eval g = .func (.func gf) #[] lb) (eg : ∀ args w, (callFunc gf args).run P w = .ok (.enter gf args) w)
    {encs : α → Array Value} {n₀ : Nat} {S Sp : List α → Prop} {N : Nat} {w0 : World} (hseq : SeqStopsK Fence.wide 99 P gf lb encs (Below n₀) S Sp N w0) (hn : n₀ ≤ w.heap.size) (hb0 : Below w0.heap.size w0 w) (hps : ∀ x, (encs x).size = ps.size)
    (I : List α → World → Prop) (Ix : Code → List α → World → Prop) (hI : OwnFrom w.heap.size I) (hIx : ∀ c, OwnFrom w.heap.size (Ix c)) (h0 : I [] w) (f : α → Array Value → Array Value)
    (hassign : ∀ (l : Nat) (x : α) (W : World) (K : Act → World → Prop), K { tmps := f x tmps, defers := [] } W →
      assign.wpIn (Fence.wide.inRound l) 98 P (Exit.then K (fun _ _ _ => False)) { tmps := (ps.zip (encs x)).foldl (fun t (p, v) => t.setIfInBounds p v) tmps, defers := [] } W)
    (hbody : ∀ (l : Nat) (pre : List α) (x : α) (W : World), w.heap.size ≤ l → (∃ r, W.heap[l]? = some (.loop r)) → I pre W → pre.length < N → body.wpIn (Fence.wide.inRound l) 98 P (ownPostG w.heap.size (Below n₀) I Ix (pre ++ [x]) W) { tmps := f x tmps, defers := [] } W)
    (hdone : ∀ (D : Nat) (xs : List α) (W : World), w.heap.size ≤ D → S xs → I xs W → W.heap[D]? = some (.deferred (some [])) → Q .normal { tmps := tmps, defers := { target := .collected D, args := #[] } :: defers } W)
    (hstop : ∀ (D : Nat) (c : Code) (pre : List α) (W : World), w.heap.size ≤ D → Sp pre → Ix c pre W → W.heap[D]? = some (.deferred (some [])) → c.wpIn Fence.wide 100 P Q { tmps := tmps, defers := { target := .collected D, args := #[] } :: defers } W) :
    (Code.rangeFunc g ps assign body).wpIn Fence.wide 100 P Q { tmps := tmps, defers := defers } w :=
  wpIn_rangeFunc_ownH (F := Fence.wide) (n := 100) rfl (by decide) hg trivial eg hseq belowK_t (belowK_b hn) hb0 hps I Ix hI hIx h0
    (fun x a' _ => a' = { tmps := f x tmps, defers := [] }) (fun _ _ _ _ _ _ hs _ _ => hs)
    (fun l _ x W K hi hK => hassign l x W K (hK _ _ (KeepsFrom.refl _ _) (Below.refl _ _) hi rfl))
    (fun l pre x a' W hl hr hi ha hlt => by subst ha; exact hbody l pre x W hl hr hi hlt)
    hdone hstop
theorem equalIn_func_nil {t : TypeId} {a b : Array TypeId} {c : Bool} (h : P.underlying t = some (.func a b c)) (d : Nat) (f : Fn) (x y : Array Value) (w : World) :
    (Op.equalIn (d + 1) t (.func f x y) .nilFunc).run P w = .ok false w := by simp [Op.equalIn, run_underlying h]
/-- 'seq != nil' -/
theorem neq_func_nil {t : TypeId} {a b : Array TypeId} {c : Bool} (h : P.underlying t = some (.func a b c)) (f : Fn) (x y : Array Value) (w : World) :
    (binOp .neq t (.func f x y) .nilFunc).run P w = .ok (.bool true) w := by
  simp only [binOp]
  simp [Op.equal, Op.maxDepth, equalIn_func_nil h 9999 f x y w]

end Go.Proofs.Ytejcjonlnijbkaa.Range

/- An iterator that hands a given list, element by element, and the law of a loop over it: the body is told which element comes. Iterators may keep cells of their own between two rounds (priv). Over any program. -/
namespace Go.Proofs.Ytejcjonlnijbkaa.Seq
open Go Go.RowKit Go.Shelf Range
set_option linter.unusedVariables false

/-- The wide fence, within a round or in none. -/
def wideR (ro : Option Nat) : Fence := { Fence.wide with round := ro }
@[simp, go_sem] theorem wideR_round (ro : Option Nat) : (wideR ro).round = ro := rfl
@[simp, go_sem] theorem wideR_depth (ro : Option Nat) : (wideR ro).depth = none := rfl
@[simp, go_sem] theorem wideR_fn (ro : Option Nat) (f : FuncId) : (wideR ro).fn f = True := rfl
theorem roomR (ro : Option Nat) (n : Nat) : (wideR ro).room n := fun d h => by cases h

/-- What an iterator may do to the world of a loop that began at B: new blocks; where it keeps cells of its own, whatever from B on. -/
def Tick (priv : Bool) (B : Nat) (W W' : World) : Prop := if priv = true then Below B W W' else Below W.heap.size W W'
/-- What a round keeps for the iterator. -/
def Kept (priv : Bool) (n₀ : Nat) (kb : List Nat) (B : Nat) (W W' : World) : Prop := Below n₀ W W' ∧ (priv = true → ∀ b, B ≤ b → b < W.heap.size → W'.heap[b]? = W.heap[b]?) ∧ ∀ b ∈ kb, W'.heap[b]? = W.heap[b]?
/-- What a loop's own invariant abides. -/
def Stab {β : Type} (priv : Bool) (B : Nat) (I : β → World → Prop) : Prop := if priv = true then ∀ k W W', I k W → Below B W W' → I k W' else OwnFrom B I

section
variable {priv : Bool} {n₀ B B' : Nat} {kb : List Nat} {W W' W2 : World}
theorem Kept.trans (h : Kept priv n₀ kb B W W') (k : Kept priv n₀ kb B W' W2) : Kept priv n₀ kb B W W2 :=
  ⟨h.1.trans k.1, fun hp b hb hl => (k.2.1 hp b hb (Nat.lt_of_lt_of_le hl h.1.size)).trans (h.2.1 hp b hb hl), fun b hb => (k.2.2 b hb).trans (h.2.2 b hb)⟩
theorem Kept.refl : Kept priv n₀ kb B W W := ⟨Below.refl _ _, fun _ _ _ _ => rfl, fun _ _ => rfl⟩
theorem Kept.mono (h : Kept priv n₀ kb B W W') (hB : B ≤ B') : Kept priv n₀ kb B' W W' := ⟨h.1, fun hp b hb => h.2.1 hp b (Nat.le_trans hB hb), h.2.2⟩
theorem Kept.put {l : Nat} (hl : l < B) (hn : n₀ ≤ l) (hkb : ∀ b ∈ kb, b < l) (o : Obj) (hs : l < W.heap.size) : Kept priv n₀ kb B W (W.putObj l o) := by
  refine ⟨(Below.refl n₀ W).grown (grownBy_putObj' W l o) (by omega) (fun k e => by cases e; exact hn), fun _ b hb _ => World.putObj_heap_other (by omega), fun b hb => World.putObj_heap_other (by have := hkb b hb; omega)⟩
theorem Kept.of (h : Below n₀ W W') (hk : ∀ b ∈ kb, W'.heap[b]? = W.heap[b]?) : Kept false n₀ kb B W W' := ⟨h, fun h => by (cases h), hk⟩
theorem below_grown {B : Nat} (h : Below W.heap.size W W') : W.grownBy W' none := ⟨h.os, h.tape, h.output, h.size, fun k hk _ => h.block k hk⟩
theorem below_put {l : Nat} (hB : B ≤ l) (hl : l < W.heap.size) (o : Obj) : Below B W (W.putObj l o) := (Below.refl B W).grown (grownBy_putObj' W l o) (by omega) (fun k e => by cases e; exact hB)
variable {β : Type} {I : β → World → Prop}
theorem Stab.put (h : Stab priv B I) {s : β} {l : Nat} {o : Obj} (o' : Obj) (hs : I s W) (hB : B ≤ l) (hl : W.heap[l]? = some o) (ho : o.isCells = false) : I s (W.putObj l o') := by
  unfold Stab at h; split at h
  · exact h _ _ _ hs (below_put hB (Array.getElem?_eq_some_iff.1 hl).1 _)
  · exact h.putObj _ hs hB hl ho
theorem Stab.alloc (h : Stab priv B I) {s : β} (o : Obj) (hs : I s W) (hB : B ≤ W.heap.size) : I s (W.alloc o) := by
  unfold Stab at h; split at h
  · exact h _ _ _ hs ((Below.refl _ _).alloc hB _)
  · exact h.alloc _ hs
theorem Stab.tick (h : Stab priv B I) {s : β} (hs : I s W) (hB : B ≤ B') (hBW : B' ≤ W.heap.size) (ht : Tick priv B' W W') : I s W' := by
  unfold Stab at h; unfold Tick at ht; split at h
  · rename_i hp; rw [if_pos hp] at ht; exact h _ _ _ hs (ht.mono hB)
  · rename_i hp; rw [if_neg hp] at ht; exact h s W W' none hs (below_grown (B := 0) ht) (fun r e => by cases e)
theorem Tick.block (ht : Tick priv B W W') {b : Nat} (hb : b < B) (hBW : B ≤ W.heap.size) : W'.heap[b]? = W.heap[b]? := by
  unfold Tick at ht; split at ht
  · exact ht.block b hb
  · exact ht.block b (Nat.lt_of_lt_of_le hb hBW)
theorem Tick.size (ht : Tick priv B W W') : W.heap.size ≤ W'.heap.size := by
  unfold Tick at ht; split at ht
  · exact ht.size
  · exact ht.size
theorem tick_below (hB : B ≤ W.heap.size) (h : Below W.heap.size W W') : Tick priv B W W' := by
  unfold Tick; split
  · exact h.mono hB
  · exact h
theorem Stab.below (h : ∀ k W W', I k W → Below B W W' → I k W') : Stab true B I := by unfold Stab; rw [if_pos rfl]; exact h
theorem Stab.own (h : OwnFrom B I) : Stab false B I := by unfold Stab; rw [if_neg (by decide)]; exact h
end

variable {P : Program}
/-- The iterator hands the elements of xs, in order, as far as it is let. -/
def Gives {α : Type} (P : Program) (priv : Bool) (g : Nat) (lb : Array Value) (encs : α → Array Value) (n₀ : Nat) (kb : List Nat) (xs : List α) (w : World) : Prop :=
  ∀ (l : Nat) (J Jx : Nat → World → Prop) (W : World), Below w.heap.size w W →
    (∀ k A A', J k A → W.heap.size ≤ A.heap.size → Tick priv W.heap.size A A' → J k A') →
    (∀ k A A', Jx k A → W.heap.size ≤ A.heap.size → Tick priv W.heap.size A A' → Jx k A') →
    (∀ k x W1, xs[k]? = some x → W.heap.size ≤ W1.heap.size → J k W1 → YieldAt (wideR none) 0 P l (encs x) W1 fun e W' => (e = .returned (.bool true) ∧ J (k + 1) W' ∧ Kept priv n₀ kb W.heap.size W1 W') ∨ (e = .returned (.bool false) ∧ Jx (k + 1) W' ∧ W1.heap.size ≤ W'.heap.size)) →
    J 0 W → CallsIn (wideR none) 0 P g (#[.func (.yield l) #[] #[]] ++ lb) W fun e W' => (∃ v, e = .returned v) ∧ (J xs.length W' ∨ ∃ k, k ≤ xs.length ∧ Jx k W')

theorem callsIn_any {ro ro' : Option Nat} {n n' : Nat} {f : FuncId} {args : Array Value} {w : World} {R : Ending → World → Prop} (h : CallsIn (wideR ro) n P f args w R) : CallsIn (wideR ro') n' P f args w R :=
  ⟨h.1, fun cs _ => h.2 cs (roomR _ _)⟩
theorem roundIn_any {ro ro' : Option Nat} {n n' l : Nat} {f : FuncId} {tmps : Array Value} {assign body : Code} {w : World} {R : Ending → World → Prop} (h : RoundIn (wideR ro) n P l f tmps assign body w R) : RoundIn (wideR ro') n' P l f tmps assign body w R :=
  ⟨h.1, fun c cs _ => h.2 c cs (roomR _ _)⟩

/-- How a round's body may be left. -/
def postS (priv : Bool) (n₀ : Nat) (kb : List Nat) (B : Nat) (I : Nat → World → Prop) (Ix : Code → Nat → World → Prop) (k : Nat) (W : World) : Exit → Act → World → Prop
  | .normal, _, W' => KeepsFrom B W W' ∧ Kept priv n₀ kb B W W' ∧ I (k + 1) W'
  | .ret, _, W' => KeepsFrom B W W' ∧ Ix .ret (k + 1) W'
  | .exit id, _, W' => KeepsFrom B W W' ∧ Ix (.exit id) (k + 1) W'
  | .goto t, _, W' => KeepsFrom B W W' ∧ Ix (.goto t) (k + 1) W'
  | .panic _, _, _ => False
  | .outgrown, _, _ => False

/-- The loop's heart: from the world in which its record lies at block l, ready. Z: what else is kept of the blocks from B on (the block of deferred calls). -/
theorem core {α : Type} {ps : Array Tmp} {assign body : Code} {priv : Bool} {Q : Exit → Act → World → Prop} {a a₂ : Act} {W1 w0 : World} {ro : Option Nat} {gf : Nat} {lb : Array Value} {encs : α → Array Value} {n₀ B l : Nat} {kb : List Nat} {xs : List α} {fn : FuncId} {dd : Nat} {n : Nat}
    (hseq : Gives P priv gf lb encs n₀ kb xs w0) (hn : n₀ ≤ B) (hkb : ∀ b ∈ kb, b < B) (hBl : B ≤ l) (hl : W1.heap[l]? = some (.loop { state := .ready, pending := none, fn, tmps := a.tmps, params := ps, assign, body, defers := dd })) (hb0 : Below w0.heap.size w0 W1) (hps : ∀ x, (encs x).size = ps.size)
    (D : Option Nat) (hD : ∀ d, D = some d → B ≤ d ∧ d < l ∧ W1.heap[d]? = some (.deferred (some [])))
    (I : Nat → World → Prop) (Ix : Code → Nat → World → Prop) (hI : Stab priv B I) (hIx : ∀ c, Stab priv B (Ix c)) (h0 : I 0 W1) (Ax : α → Act → World → Prop) (hAx : ∀ x a', OwnFrom B (fun (_ : Unit) W => Ax x a' W))
    (hassign : ∀ (k : Nat) (x : α) (W : World) (K : Act → World → Prop), xs[k]? = some x → I k W → (∀ a' W', KeepsFrom B W W' → Kept priv n₀ kb B W W' → I k W' → Ax x a' W' → K a' W') →
      assign.wpIn (wideR (some l)) 0 P (Exit.then K (fun _ _ _ => False)) { tmps := (ps.zip (encs x)).foldl (fun t (p, v) => t.setIfInBounds p v) a.tmps, defers := [] } W)
    (hbody : ∀ (k : Nat) (x : α) (a' : Act) (W : World), (∃ r, W.heap[l]? = some (.loop r)) → xs[k]? = some x → I k W → Ax x a' W → body.wpIn (wideR (some l)) 0 P (postS priv n₀ kb B I Ix k W) a' W)
    (hdone : ∀ (W : World), I xs.length W → (∀ d, D = some d → W.heap[d]? = some (.deferred (some []))) → Q .normal a₂ W)
    (hstop : ∀ (c : Code) (k : Nat) (W : World), k ≤ xs.length → Ix c k W → (∀ d, D = some d → W.heap[d]? = some (.deferred (some []))) → c.wpIn (wideR ro) n P Q a₂ W) :
    CallsIn (wideR ro) (n - 1) P gf (#[.func (.yield l) #[] #[]] ++ lb) W1 (rangePost (wideR ro) n P l Q a₂) := by
  obtain ⟨rec, hrec⟩ : ∃ rec : LoopState → Option Code → Loop, rec = fun st pe => { state := st, pending := pe, fn, tmps := a.tmps, params := ps, assign, body, defers := dd } := ⟨_, rfl⟩
  have hl1 : W1.heap[l]? = some (.loop (rec .ready none)) := by rw [hrec]; exact hl
  have hlW1 : l < W1.heap.size := (Array.getElem?_eq_some_iff.1 hl).1
  refine callsIn_any (ro := none) (n := 0) ?_
  refine (hseq l
    (fun k W => I k W ∧ W.heap[l]? = some (.loop (rec .ready none)) ∧ ∀ d, D = some d → W.heap[d]? = some (.deferred (some [])))
    (fun k W => ∃ c, Ix c k W ∧ W.heap[l]? = some (.loop (rec .done (some c))) ∧ ∀ d, D = some d → W.heap[d]? = some (.deferred (some [])))
    W1 hb0 ?_ ?_ ?_ ⟨h0, hl1, fun d hd => (hD d hd).2.2⟩).mono ?_
  · rintro k A A' ⟨hi, hl, hd⟩ hs ht
    exact ⟨hI.tick hi (by omega) hs ht, (ht.block hlW1 hs).trans hl, fun d e => (ht.block (by have := (hD d e).2.1; omega) hs).trans (hd d e)⟩
  · rintro k A A' ⟨c, hi, hl, hd⟩ hs ht
    exact ⟨c, (hIx c).tick hi (by omega) hs ht, (ht.block hlW1 hs).trans hl, fun d e => (ht.block (by have := (hD d e).2.1; omega) hs).trans (hd d e)⟩
  · rintro k x W hx hW ⟨hi, hl, hd⟩
    have hy := run_yield (P := P) (args := encs x) hl (by rw [hrec]; exact hps x)
    rw [hrec] at hy
    refine ⟨fn, _, assign, body, hy, roundIn_any (ro := none) (n := 0) (roundIn_of_wpIn trivial (hassign k x W _ hx hi ?_))⟩
    clear hy
    intro a' Wa hkfa hkpa hia hax
    have hla := hkfa.same _ _ hBl hl rfl
    have hlta : l < Wa.heap.size := (Array.getElem?_eq_some_iff.1 hla).1
    have hda : ∀ d, D = some d → Wa.heap[d]? = some (.deferred (some [])) := fun d e => hkfa.same _ _ (hD d e).1 (hd d e) rfl
    refine ⟨_, run_beginRound hla (by rw [hrec]), ?_⟩
    have hl2 : (Wa.putObj l (.loop { rec .ready none with state := .busy })).heap[l]? = some (.loop { rec .ready none with state := .busy }) := World.putObj_heap_same hlta
    have hd2 : ∀ d, D = some d → (Wa.putObj l (.loop { rec .ready none with state := .busy })).heap[d]? = some (.deferred (some [])) := fun d e => (World.putObj_heap_other (by have := (hD d e).2.1; omega)).trans (hda d e)
    have hw2 : Kept priv n₀ kb W1.heap.size Wa (Wa.putObj l (.loop { rec .ready none with state := .busy })) := Kept.put hlW1 (by omega) (fun b hb => Nat.lt_of_lt_of_le (hkb b hb) hBl) _ hlta
    refine wpIn_mono (hbody k x a' _ ⟨_, hl2⟩ hx (hI.put _ hia hBl hla rfl) ((hAx x a').putObj (s := ()) _ hax hBl hla rfl)) ?_
    have fin : ∀ (jump : Option Code) (W3 : World), KeepsFrom B (Wa.putObj l (.loop { rec .ready none with state := .busy })) W3 →
        (Instr.endRound l jump).run P W3 = .ok (.bool jump.isNone) (W3.putObj l (.loop (rec (if jump.isNone then .ready else .done) jump))) ∧
        W3.heap[l]? = some (.loop { rec .ready none with state := .busy }) ∧
        (W3.putObj l (.loop (rec (if jump.isNone then .ready else .done) jump))).heap[l]? = some (.loop (rec (if jump.isNone then .ready else .done) jump)) ∧
        (∀ d, D = some d → (W3.putObj l (.loop (rec (if jump.isNone then .ready else .done) jump))).heap[d]? = some (.deferred (some []))) ∧ W.heap.size ≤ (W3.putObj l (.loop (rec (if jump.isNone then .ready else .done) jump))).heap.size := fun jump W3 hk3 => by
      have hl3 := hk3.same _ _ hBl hl2 rfl
      have := run_endRound (P := P) jump hl3
      rw [hrec] at this ⊢
      refine ⟨this, by rw [hrec] at hl3; exact hl3, World.putObj_heap_same (Array.getElem?_eq_some_iff.1 hl3).1, fun d e => (World.putObj_heap_other (by have := (hD d e).2.1; omega)).trans (hk3.same _ _ (hD d e).1 (hd2 d e) rfl), ?_⟩
      have h1 := hkfa.size
      have h2 := hk3.size
      have h3 := (grownBy_putObj' Wa l (.loop { rec .ready none with state := .busy })).size
      have h4 := (grownBy_putObj' W3 l (.loop (rec (if jump.isNone then .ready else .done) jump))).size
      rw [hrec] at h4 h2 h3
      exact Nat.le_trans h1 (Nat.le_trans h3 (Nat.le_trans h2 h4))
    rintro e a3 W3 hp
    cases e with
    | normal =>
      obtain ⟨hk3, hkp3, hi3⟩ := hp
      obtain ⟨hr, hl3, hl4, hk4, hs4⟩ := fin none W3 hk3
      have hl3lt := (Array.getElem?_eq_some_iff.1 hl3).1
      exact ⟨_, _, hr, .inl ⟨rfl, ⟨hI.put _ hi3 hBl hl3 rfl, hl4, hk4⟩, (hkpa.mono (by omega)).trans ((hw2.trans (hkp3.mono (by omega))).trans (Kept.put hlW1 (by omega) (fun b hb => Nat.lt_of_lt_of_le (hkb b hb) hBl) _ hl3lt))⟩⟩
    | ret =>
      obtain ⟨hk3, hi3⟩ := hp
      obtain ⟨hr, hl3, hl4, hk4, hs4⟩ := fin (some .ret) W3 hk3
      exact ⟨_, _, hr, .inr ⟨rfl, ⟨.ret, (hIx _).put _ hi3 hBl hl3 rfl, hl4, hk4⟩, hs4⟩⟩
    | exit id =>
      obtain ⟨hk3, hi3⟩ := hp
      obtain ⟨hr, hl3, hl4, hk4, hs4⟩ := fin (some (.exit id)) W3 hk3
      exact ⟨_, _, hr, .inr ⟨rfl, ⟨.exit id, (hIx _).put _ hi3 hBl hl3 rfl, hl4, hk4⟩, hs4⟩⟩
    | goto t =>
      obtain ⟨hk3, hi3⟩ := hp
      obtain ⟨hr, hl3, hl4, hk4, hs4⟩ := fin (some (.goto t)) W3 hk3
      exact ⟨_, _, hr, .inr ⟨rfl, ⟨.goto t, (hIx _).put _ hi3 hBl hl3 rfl, hl4, hk4⟩, hs4⟩⟩
    | panic ch => exact hp.elim
    | outgrown => exact hp.elim
  · rintro e W2 ⟨⟨v, rfl⟩, (⟨hi, hl, hd⟩ | ⟨k, hk, c, hi, hl, hd⟩)⟩
    · exact ⟨none, _, by have := run_endLoop (P := P) hl (by rw [hrec]; simp); rw [hrec] at this; exact this, hdone _ (hI.put _ hi hBl hl rfl) (fun d e => (World.putObj_heap_other (by have := (hD d e).2.1; omega)).trans (hd d e))⟩
    · exact ⟨some c, _, by have := run_endLoop (P := P) hl (by rw [hrec]; simp); rw [hrec] at this; exact this, hstop c k _ hk ((hIx c).put _ hi hBl hl rfl) (fun d e => (World.putObj_heap_other (by have := (hD d e).2.1; omega)).trans (hd d e))⟩

section
variable {α : Type} {g : Operand} {ps : Array Tmp} {assign body : Code} {priv : Bool} {Q : Exit → Act → World → Prop} {tmps : Array Value} {defers : List Deferred} {w w0 : World} {gf : Nat} {lb : Array Value} {encs : α → Array Value} {n₀ : Nat} {kb : List Nat} {xs : List α} {n : Nat}
/-- A loop over an iterator, in no round. What lies behind the assignment to the loop's variables is said by Ax. -/
theorem range_ax (hg : (⟨tmps, defers⟩ : Act).eval g = .func (.func gf) #[] lb) (eg : ∀ args w, (callFunc gf args).run P w = .ok (.enter gf args) w)
    (hseq : Gives P priv gf lb encs n₀ kb xs w0) (hn : n₀ ≤ w.heap.size) (hkb : ∀ b ∈ kb, b < w.heap.size) (hb0 : Below w0.heap.size w0 w) (hps : ∀ x, (encs x).size = ps.size)
    (I : Nat → World → Prop) (Ix : Code → Nat → World → Prop) (hI : Stab priv w.heap.size I) (hIx : ∀ c, Stab priv w.heap.size (Ix c)) (h0 : I 0 w) (Ax : α → Act → World → Prop) (hAx : ∀ x a', OwnFrom w.heap.size (fun (_ : Unit) W => Ax x a' W))
    (hassign : ∀ (l k : Nat) (x : α) (W : World) (K : Act → World → Prop), xs[k]? = some x → I k W → (∀ a' W', KeepsFrom w.heap.size W W' → Kept priv n₀ kb w.heap.size W W' → I k W' → Ax x a' W' → K a' W') →
      assign.wpIn (wideR (some l)) 0 P (Exit.then K (fun _ _ _ => False)) { tmps := (ps.zip (encs x)).foldl (fun t (p, v) => t.setIfInBounds p v) tmps, defers := [] } W)
    (hbody : ∀ (l k : Nat) (x : α) (a' : Act) (W : World), w.heap.size ≤ l → (∃ r, W.heap[l]? = some (.loop r)) → xs[k]? = some x → I k W → Ax x a' W → body.wpIn (wideR (some l)) 0 P (postS priv n₀ kb w.heap.size I Ix k W) a' W)
    (hdone : ∀ (D : Nat) (W : World), w.heap.size ≤ D → I xs.length W → W.heap[D]? = some (.deferred (some [])) → Q .normal { tmps := tmps, defers := { target := .collected D, args := #[] } :: defers } W)
    (hstop : ∀ (D : Nat) (c : Code) (k : Nat) (W : World), w.heap.size ≤ D → k ≤ xs.length → Ix c k W → W.heap[D]? = some (.deferred (some [])) → c.wpIn (wideR none) n P Q { tmps := tmps, defers := { target := .collected D, args := #[] } :: defers } W) :
    (Code.rangeFunc g ps assign body).wpIn (wideR none) n P Q { tmps := tmps, defers := defers } w := by
  refine wpIn_rangeFunc fun fn _ => ?_
  obtain ⟨r0, hr0⟩ : ∃ r0 : Loop, ({ state := .ready, pending := none, fn, tmps := tmps, params := ps, assign, body, defers := w.heap.size } : Loop) = r0 := ⟨_, rfl⟩
  refine ⟨w.heap.size + 1, [{ target := .collected w.heap.size, args := #[] }], (w.alloc (.deferred (some []))).alloc (.loop r0), { target := .fn (.func gf) lb, args := #[.func (.yield (w.heap.size + 1)) #[] #[]] }, (w.alloc (.deferred (some []))).alloc (.loop r0), gf,
    #[.func (.yield (w.heap.size + 1)) #[] #[]] ++ lb, (w.alloc (.deferred (some []))).alloc (.loop r0), ?_, ?_, fun _ _ => trivial, ?_, fun h => (by cases h), ?_⟩
  · rw [← hr0]; exact run_enterLoop_outer _ _ _ _ _
  · simp only [resolve, hg]
    simp [go_sem]
  · simp [invoke, go_sem, eg]
  · have hL : ((w.alloc (.deferred (some []))).alloc (.loop r0)).heap[w.heap.size + 1]? = some (.loop r0) := by
      have := World.alloc_heap_new (w.alloc (.deferred (some []))) (.loop r0); rwa [World.size_alloc] at this
    have hK : ((w.alloc (.deferred (some []))).alloc (.loop r0)).heap[w.heap.size]? = some (.deferred (some [])) := (Below.heap_alloc _ _ _ (by simp)).trans (World.alloc_heap_new w _)
    refine core (a := { tmps := tmps, defers := defers }) (ro := none) (D := some w.heap.size) hseq hn hkb (by omega : w.heap.size ≤ w.heap.size + 1) (by rw [hL, ← hr0]) (hb0.trans ((((Below.refl _ w).alloc (Nat.le_refl _) _).alloc (by simp) _).mono hb0.size)) hps
      (fun d hd => by cases hd; exact ⟨Nat.le_refl _, by omega, hK⟩) I Ix hI hIx (hI.alloc _ (hI.alloc _ h0 (Nat.le_refl _)) (by simp)) Ax hAx (fun k x W K => hassign _ k x W K) (fun k x a' W hr => hbody _ k x a' W (by omega) hr)
      (fun W hi hd => hdone _ W (Nat.le_refl _) hi (hd _ rfl)) (fun c k W hk hi hd => hstop _ c k W (Nat.le_refl _) hk hi (hd _ rfl))
/-- .. within a round of loop l₀. -/
theorem range_ax_in {l₀ : Nat} {r₀ : Loop} (hl₀ : w.heap[l₀]? = some (.loop r₀)) (hg : (⟨tmps, defers⟩ : Act).eval g = .func (.func gf) #[] lb) (eg : ∀ args w, (callFunc gf args).run P w = .ok (.enter gf args) w)
    (hseq : Gives P priv gf lb encs n₀ kb xs w0) (hn : n₀ ≤ w.heap.size) (hkb : ∀ b ∈ kb, b < w.heap.size) (hb0 : Below w0.heap.size w0 w) (hps : ∀ x, (encs x).size = ps.size)
    (I : Nat → World → Prop) (Ix : Code → Nat → World → Prop) (hI : Stab priv w.heap.size I) (hIx : ∀ c, Stab priv w.heap.size (Ix c)) (h0 : I 0 w) (Ax : α → Act → World → Prop) (hAx : ∀ x a', OwnFrom w.heap.size (fun (_ : Unit) W => Ax x a' W))
    (hassign : ∀ (l k : Nat) (x : α) (W : World) (K : Act → World → Prop), xs[k]? = some x → I k W → (∀ a' W', KeepsFrom w.heap.size W W' → Kept priv n₀ kb w.heap.size W W' → I k W' → Ax x a' W' → K a' W') →
      assign.wpIn (wideR (some l)) 0 P (Exit.then K (fun _ _ _ => False)) { tmps := (ps.zip (encs x)).foldl (fun t (p, v) => t.setIfInBounds p v) tmps, defers := [] } W)
    (hbody : ∀ (l k : Nat) (x : α) (a' : Act) (W : World), w.heap.size ≤ l → (∃ r, W.heap[l]? = some (.loop r)) → xs[k]? = some x → I k W → Ax x a' W → body.wpIn (wideR (some l)) 0 P (postS priv n₀ kb w.heap.size I Ix k W) a' W)
    (hdone : ∀ (W : World), I xs.length W → Q .normal { tmps := tmps, defers := defers } W)
    (hstop : ∀ (c : Code) (k : Nat) (W : World), k ≤ xs.length → Ix c k W → c.wpIn (wideR (some l₀)) n P Q { tmps := tmps, defers := defers } W) :
    (Code.rangeFunc g ps assign body).wpIn (wideR (some l₀)) n P Q { tmps := tmps, defers := defers } w := by
  refine wpIn_rangeFunc fun fn _ => ?_
  obtain ⟨r0, hr0⟩ : ∃ r0 : Loop, ({ state := .ready, pending := none, fn, tmps := tmps, params := ps, assign, body, defers := r₀.defers } : Loop) = r0 := ⟨_, rfl⟩
  refine ⟨w.heap.size, [], w.alloc (.loop r0), { target := .fn (.func gf) lb, args := #[.func (.yield w.heap.size) #[] #[]] }, w.alloc (.loop r0), gf,
    #[.func (.yield w.heap.size) #[] #[]] ++ lb, w.alloc (.loop r0), ?_, ?_, fun _ _ => trivial, ?_, fun h => (by cases h), ?_⟩
  · rw [← hr0]; exact run_enterLoop_inner hl₀ _ _ _ _ _
  · simp only [resolve, hg]
    simp [go_sem]
  · simp [invoke, go_sem, eg]
  · have hL : (w.alloc (.loop r0)).heap[w.heap.size]? = some (.loop r0) := World.alloc_heap_new w _
    refine core (a := { tmps := tmps, defers := defers }) (ro := some l₀) (D := none) hseq hn hkb (Nat.le_refl w.heap.size) (by rw [hL, ← hr0]) (hb0.trans (((Below.refl _ w).alloc (Nat.le_refl _) _).mono hb0.size)) hps
      (fun d hd => by cases hd) I Ix hI hIx (hI.alloc _ h0 (Nat.le_refl _)) Ax hAx (fun k x W K => hassign _ k x W K) (fun k x a' W hr => hbody _ k x a' W (Nat.le_refl _) hr)
      (fun W hi _ => hdone W hi) (fun c k W hk hi _ => hstop c k W hk hi)
/-- .. where the frame behind the assignment is f x of the frame ahead of the loop. -/
theorem range (hg : (⟨tmps, defers⟩ : Act).eval g = .func (.func gf) #[] lb) (eg : ∀ args w, (callFunc gf args).run P w = .ok (.enter gf args) w)
    (hseq : Gives P priv gf lb encs n₀ kb xs w0) (hn : n₀ ≤ w.heap.size) (hkb : ∀ b ∈ kb, b < w.heap.size) (hb0 : Below w0.heap.size w0 w) (hps : ∀ x, (encs x).size = ps.size)
    (I : Nat → World → Prop) (Ix : Code → Nat → World → Prop) (hI : Stab priv w.heap.size I) (hIx : ∀ c, Stab priv w.heap.size (Ix c)) (h0 : I 0 w) (f : α → Array Value → Array Value)
    (hassign : ∀ (l : Nat) (x : α) (W : World) (K : Act → World → Prop), K { tmps := f x tmps, defers := [] } W →
      assign.wpIn (wideR (some l)) 0 P (Exit.then K (fun _ _ _ => False)) { tmps := (ps.zip (encs x)).foldl (fun t (p, v) => t.setIfInBounds p v) tmps, defers := [] } W)
    (hbody : ∀ (l k : Nat) (x : α) (W : World), w.heap.size ≤ l → (∃ r, W.heap[l]? = some (.loop r)) → xs[k]? = some x → I k W → body.wpIn (wideR (some l)) 0 P (postS priv n₀ kb w.heap.size I Ix k W) { tmps := f x tmps, defers := [] } W)
    (hdone : ∀ (D : Nat) (W : World), w.heap.size ≤ D → I xs.length W → W.heap[D]? = some (.deferred (some [])) → Q .normal { tmps := tmps, defers := { target := .collected D, args := #[] } :: defers } W)
    (hstop : ∀ (D : Nat) (c : Code) (k : Nat) (W : World), w.heap.size ≤ D → k ≤ xs.length → Ix c k W → W.heap[D]? = some (.deferred (some [])) → c.wpIn (wideR none) n P Q { tmps := tmps, defers := { target := .collected D, args := #[] } :: defers } W) :
    (Code.rangeFunc g ps assign body).wpIn (wideR none) n P Q { tmps := tmps, defers := defers } w :=
  range_ax hg eg hseq hn hkb hb0 hps I Ix hI hIx h0 (fun x a' _ => a' = { tmps := f x tmps, defers := [] }) (fun _ _ _ _ _ _ hs _ _ => hs)
    (fun l k x W K _ hi hK => hassign l x W K (hK _ _ (KeepsFrom.refl _ _) Kept.refl hi rfl)) (fun l k x a' W hl hr hx hi ha => by subst ha; exact hbody l k x W hl hr hx hi) hdone hstop
end
/-- The way back to a plain contract. -/
theorem calls_of {n : Nat} {f : FuncId} {args : Array Value} {w : World} {R : Ending → World → Prop} (h : CallsIn (wideR none) n P f args w R) : Calls P f args w R := callsIn_wide.1 (show CallsIn Fence.wide n P f args w R from h)
theorem of_calls {ro : Option Nat} {n : Nat} {f : FuncId} {args : Array Value} {w : World} {R : Ending → World → Prop} (h : Calls P f args w R) : CallsIn (wideR ro) n P f args w R :=
  callsIn_any (ro := none) (n := 0) (callsIn_wide.2 h)
end Go.Proofs.Ytejcjonlnijbkaa.Seq
