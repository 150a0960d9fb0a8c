/- Rows that a loop over an iterator has put together, as the printed texts want them. Over any program. -/
import Derived.Test.YtejcjonlnijbkaaSr
import Derived.Test.YtejcjonlnijbkaaWWords
import Derived.Test.YtejcjonlnijbkaaSm
import Derived.Maps.OwnIn
import Derived.RangeFuncRecord
namespace Go.Proofs.Ytejcjonlnijbkaa.KdX
open Go Go.RowKit Go.Proofs.YtejcjonlnijbkaaW.PrintWords
set_option linter.unusedVariables false

/-- The frame, named. -/
theorem with_frame {F : Fence} {n : Nat} {P : Program} {c : Code} {Q : Exit → Act → World → Prop} {T : Array Value} {d : List Deferred} {w : World} (h : ∀ T', T' = T → c.wpIn F n P Q { tmps := T', defers := d } w) : c.wpIn F n P Q { tmps := T, defers := d } w := h T rfl
theorem flat_len {α : Type} {enc : α → List Value} {n : Nat} (h : ∀ x, (enc x).length = n) : ∀ xs : List α, (xs.flatMap enc).length = xs.length * n
  | [] => by simp
  | x :: xs => by rw [List.flatMap_cons, List.length_append, h, flat_len h xs, List.length_cons, Nat.succ_mul, Nat.add_comm]
theorem reps_flat {α : Type} {R : α → List Value → Prop} {enc : α → List Value} {n : Nat} (h : ∀ x, (enc x).length = n) (hR : ∀ x, R x (enc x)) : ∀ (xs : List α), Reps R n xs (xs.flatMap enc)
  | [] => Reps.none _ _
  | x :: xs => Kd.reps_append (ps := [x]) (cs := enc x) (Reps.snoc (Reps.none _ _) (hR x) (h x)) (reps_flat h hR xs)
theorem of_own {α : Type} {d : Kd α} {enc : α → List Value} (hM : ∀ w base ok x, d.M w base ok x (enc x)) (hl : ∀ x, (enc x).length = d.sz) {E m B n : Nat} {w0 w : World} {v : Value} {xs : List α} (h : Row.OwnR E m B w0 w v n (xs.flatMap enc)) (hm : m = d.sz) (hn : n = xs.length) :
    d.R E w B (fun _ => True) v xs := by
  subst hm hn
  exact ⟨fun _ _ => trivial, _, h.row, reps_flat hl (fun x => hM _ _ _ x) xs⟩
end Go.Proofs.Ytejcjonlnijbkaa.KdX

/- The law of a loop over an iterator that keeps a known number of blocks of its own (those that it lays before it hands its first element): the loop's own memory may lie behind them. Over any program. -/
namespace Go.Proofs.Ytejcjonlnijbkaa.SeqN
open Go Go.RowKit Go.Shelf Range Go.Proofs.Ytejcjonlnijbkaa.Seq
set_option linter.unusedVariables false

/-- All but M blocks from B on, and but new ones, is as it was. -/
structure Win (M B : Nat) (W W' : World) : Prop where
  os : W'.os = W.os
  tape : W'.tape = W.tape
  output : W'.output = W.output
  size : W.heap.size ≤ W'.heap.size
  block : ∀ b, b < W.heap.size → b < B ∨ B + M ≤ b → W'.heap[b]? = W.heap[b]?
section
variable {M M2 N B B2 n₀ : Nat} {kb : List Nat} {W W' W2 : World}
theorem Win.refl : Win M B W W := ⟨rfl, rfl, rfl, Nat.le_refl _, fun _ _ _ => rfl⟩
theorem Win.trans (h : Win M B W W') (k : Win M B W' W2) : Win M B W W2 :=
  ⟨k.os.trans h.os, k.tape.trans h.tape, k.output.trans h.output, Nat.le_trans h.size k.size, fun b hb ho => (k.block b (Nat.lt_of_lt_of_le hb h.size) ho).trans (h.block b hb ho)⟩
theorem Win.of_below (h : Below W.heap.size W W') : Win M B W W' := ⟨h.os, h.tape, h.output, h.size, fun b hb _ => h.block b hb⟩
theorem Win.below (h : Win M B W W') (hB : B2 ≤ B) (hW : B2 ≤ W.heap.size) : Below B2 W W' := ⟨h.os, h.tape, h.output, h.size, fun b hb => h.block b (by omega) (.inl (by omega))⟩
theorem Win.mono (h : Win M B W W') (h1 : B2 ≤ B) (h2 : B + M ≤ B2 + M2) : Win M2 B2 W W' := ⟨h.os, h.tape, h.output, h.size, fun b hb ho => h.block b hb (by omega)⟩
theorem Win.none (h : Win 0 B W W') : Below W.heap.size W W' := ⟨h.os, h.tape, h.output, h.size, fun b hb => h.block b hb (by omega)⟩
theorem Win.put {l : Nat} (h1 : B ≤ l) (h2 : l < B + M) (o : Obj) : Win M B W (W.putObj l o) :=
  have g := grownBy_putObj' W l o
  ⟨g.os, g.tape, g.output, g.size, fun b hb ho => g.block b hb (fun e => by cases e; omega)⟩
theorem Win.set {p : Addr} (h1 : B ≤ p.block) (h2 : p.block < B + M) (v : Value) : Win M B W (W.setCell p v) :=
  have g := (Below.refl p.block W).setCell (p := p) (Nat.le_refl _) v
  ⟨g.os, g.tape, g.output, g.size, fun b hb ho => Below.heap_setCell W p v b (by omega)⟩
theorem Win.cell (h : Win M B W W') {p : Addr} (hb : p.block < W.heap.size) (ho : p.block < B ∨ B + M ≤ p.block) : W'.cell? p = W.cell? p := World.cell?_of_block (h.block _ hb ho)
theorem Win.frozen (h : Win M B W W') {p : Addr} (hb : p.block < W.heap.size) (ho : p.block < B ∨ B + M ≤ p.block) : W'.frozen? p = W.frozen? p := World.frozen?_of_block (h.block _ hb ho)

/-- What a round keeps for the iterator. -/
def KeptN (N n₀ : Nat) (kb : List Nat) (B : Nat) (W W' : World) : Prop := Below n₀ W W' ∧ (∀ b, B ≤ b → b < B + N → b < W.heap.size → W'.heap[b]? = W.heap[b]?) ∧ ∀ b ∈ kb, W'.heap[b]? = W.heap[b]?
theorem KeptN.trans (h : KeptN N n₀ kb B W W') (k : KeptN N n₀ kb B W' W2) : KeptN N n₀ kb B W W2 :=
  ⟨h.1.trans k.1, fun b hb ho hl => (k.2.1 b hb ho (Nat.lt_of_lt_of_le hl h.1.size)).trans (h.2.1 b hb ho hl), fun b hb => (k.2.2 b hb).trans (h.2.2 b hb)⟩
theorem KeptN.refl : KeptN N n₀ kb B W W := ⟨Below.refl _ _, fun _ _ _ _ => rfl, fun _ _ => rfl⟩
theorem KeptN.put {l : Nat} (hl : l < B) (hn : n₀ ≤ l) (hkb : ∀ b ∈ kb, b < l) (o : Obj) (hs : l < W.heap.size) : KeptN N n₀ kb B W (W.putObj l o) :=
  ⟨(Below.refl n₀ W).grown (grownBy_putObj' W l o) (by omega) (fun k e => by cases e; exact hn), fun b hb _ _ => World.putObj_heap_other (by omega), fun b hb => World.putObj_heap_other (by have := hkb b hb; omega)⟩
theorem KeptN.mono (h : KeptN M n₀ kb B W W') (h1 : B ≤ B2) (h2 : B2 + N ≤ B + M) : KeptN N n₀ kb B2 W W' := ⟨h.1, fun b hb ho hl => h.2.1 b (by omega) (by omega) hl, h.2.2⟩
theorem KeptN.alloc (o : Obj) (hn : n₀ ≤ W.heap.size) (hkb : ∀ b ∈ kb, b < W.heap.size) : KeptN N n₀ kb B W (W.alloc o) :=
  ⟨(Below.refl _ _).alloc hn _, fun b _ _ hb => Below.heap_alloc W o b hb, fun b hb => Below.heap_alloc W o b (hkb b hb)⟩
theorem KeptN.of (h : Below n₀ W W') (h1 : ∀ b, b < W.heap.size → (B ≤ b ∧ b < B + N) ∨ b ∈ kb → W'.heap[b]? = W.heap[b]?) (hkb : ∀ b ∈ kb, b < W.heap.size) : KeptN N n₀ kb B W W' :=
  ⟨h, fun b hb ho hl => h1 b hl (.inl ⟨hb, ho⟩), fun b hb => h1 b (hkb b hb) (.inr hb)⟩
end

variable {P : Program}
/-- The iterator hands the elements of xs, in order, as far as it is let; N blocks, the first that it lays, are its own. -/
def Gives {α : Type} (P : Program) (N : Nat) (g : Nat) (lb : Array Value) (encs : α → Array Value) (n₀ : Nat) (kb : List Nat) (xs : List α) (w : World) : Prop :=
  ∀ (l : Nat) (J Jx : Nat → World → Prop) (W : World), Below w.heap.size w W →
    (∀ k A A', J k A → W.heap.size ≤ A.heap.size → Win N W.heap.size A A' → J k A') →
    (∀ k A A', Jx k A → W.heap.size ≤ A.heap.size → Win N W.heap.size A A' → Jx k A') →
    (∀ k x W1, xs[k]? = some x → W.heap.size + N ≤ W1.heap.size → J k W1 → YieldAt (wideR none) 0 P l (encs x) W1 fun e W' => (e = .returned (.bool true) ∧ J (k + 1) W' ∧ KeptN N n₀ kb W.heap.size W1 W') ∨ (e = .returned (.bool false) ∧ Jx (k + 1) W' ∧ KeptN N n₀ kb W.heap.size W1 W')) →
    J 0 W → CallsIn (wideR none) 0 P g (#[.func (.yield l) #[] #[]] ++ lb) W fun e W' => (∃ v, e = .returned v) ∧ (J xs.length W' ∨ ∃ k, k ≤ xs.length ∧ Jx k W')
/-- An iterator without cells of its own. -/
theorem of_plain {α : Type} {g : Nat} {lb : Array Value} {encs : α → Array Value} {n₀ : Nat} {kb : List Nat} {xs : List α} {w : World} (h : Seq.Gives P false g lb encs n₀ kb xs w) : Gives P 0 g lb encs n₀ kb xs w := by
  intro l J Jx W hW hJ hJx hY h0
  refine h l (fun k A => J k A ∧ W.heap.size ≤ A.heap.size) (fun k A => Jx k A ∧ W.heap.size ≤ A.heap.size) W hW ?_ ?_ ?_ ⟨h0, Nat.le_refl _⟩ |>.mono ?_
  · rintro k A A' ⟨h1, h2⟩ hs ht
    unfold Seq.Tick at ht; rw [if_neg (by decide)] at ht
    exact ⟨hJ k A A' h1 hs (Win.of_below ht), Nat.le_trans h2 ht.size⟩
  · rintro k A A' ⟨h1, h2⟩ hs ht
    unfold Seq.Tick at ht; rw [if_neg (by decide)] at ht
    exact ⟨hJx k A A' h1 hs (Win.of_below ht), Nat.le_trans h2 ht.size⟩
  · rintro k x W1 hx hs ⟨h1, h2⟩
    obtain ⟨fn, tmps, assign, body, hy, hR⟩ := hY k x W1 hx hs h1
    refine ⟨fn, tmps, assign, body, hy, hR.mono ?_⟩
    rintro e W' (⟨he, h3, h4⟩ | ⟨he, h3, h4⟩)
    · exact .inl ⟨he, ⟨h3, Nat.le_trans h2 h4.1.size⟩, h4.1, fun hp => (by cases hp), h4.2.2⟩
    · exact .inr ⟨he, ⟨h3, Nat.le_trans h2 h4.1.size⟩, h4.1.size⟩
  · rintro e W' ⟨he, (⟨h1, _⟩ | ⟨k, hk, h1, _⟩)⟩
    · exact ⟨he, .inl h1⟩
    · exact ⟨he, .inr ⟨k, hk, h1⟩⟩

/-- How a round's body may be left: the first M blocks from the loop's beginning on stay (the loop's own ones, the iterator's). -/
def postN (M n₀ : Nat) (kb : List Nat) (B : Nat) (I : Nat → World → Prop) (Ix : Code → Nat → World → Prop) (k : Nat) (W : World) : Exit → Act → World → Prop
  | .normal, _, W' => KeptN M n₀ kb B W W' ∧ I (k + 1) W'
  | .ret, _, W' => KeptN M n₀ kb B W W' ∧ Ix .ret (k + 1) W'
  | .exit id, _, W' => KeptN M n₀ kb B W W' ∧ Ix (.exit id) (k + 1) W'
  | .goto t, _, W' => KeptN M n₀ kb B W W' ∧ Ix (.goto t) (k + 1) W'
  | .panic _, _, _ => False
  | .outgrown, _, _ => False

theorem core {α : Type} {ps : Array Tmp} {assign body : Code} {N M : Nat} {Q : Exit → Act → World → Prop} {a a₂ : Act} {W1 w0 : World} {ro : Option Nat} {gf : Nat} {lb : Array Value} {encs : α → Array Value} {n₀ B l : Nat} {kb : List Nat} {xs : List α} {fn : FuncId} {dd : Nat} {n : Nat}
    (hseq : Gives P N gf lb encs n₀ kb xs w0) (hn : n₀ ≤ B) (hkb : ∀ b ∈ kb, b < B) (hBl : B ≤ l) (hlast : W1.heap.size = l + 1) (hM : l + 1 + N ≤ B + M) (hl : W1.heap[l]? = some (.loop { state := .ready, pending := none, fn, tmps := a.tmps, params := ps, assign, body, defers := dd })) (hb0 : Below w0.heap.size w0 W1) (hps : ∀ x, (encs x).size = ps.size)
    (D : Option Nat) (hD : ∀ d, D = some d → B ≤ d ∧ d < l ∧ W1.heap[d]? = some (.deferred (some [])))
    (I : Nat → World → Prop) (Ix : Code → Nat → World → Prop) (hI : ∀ k A A', I k A → B ≤ A.heap.size → Win M B A A' → I k A') (hIx : ∀ c k A A', Ix c k A → B ≤ A.heap.size → Win M B A A' → Ix c k A') (h0 : I 0 W1) (Ax : α → Act → World → Prop) (hAx : ∀ x a', OwnFrom B (fun (_ : Unit) W => Ax x a' W))
    (hassign : ∀ (k : Nat) (x : α) (W : World) (K : Act → World → Prop), xs[k]? = some x → l + 1 + N ≤ W.heap.size → I k W → (∀ a' W', KeptN M n₀ kb B W W' → I k W' → Ax x a' W' → K a' W') →
      assign.wpIn (wideR (some l)) 0 P (Exit.then K (fun _ _ _ => False)) { tmps := (ps.zip (encs x)).foldl (fun t (p, v) => t.setIfInBounds p v) a.tmps, defers := [] } W)
    (hbody : ∀ (k : Nat) (x : α) (a' : Act) (W : World), (∃ r, W.heap[l]? = some (.loop r)) → xs[k]? = some x → l + 1 + N ≤ W.heap.size → I k W → Ax x a' W → body.wpIn (wideR (some l)) 0 P (postN M n₀ kb B I Ix k W) a' W)
    (hdone : ∀ (W : World), l + 1 ≤ W.heap.size → I xs.length W → (∀ d, D = some d → W.heap[d]? = some (.deferred (some []))) → Q .normal a₂ W)
    (hstop : ∀ (c : Code) (k : Nat) (W : World), k ≤ xs.length → l + 1 ≤ W.heap.size → Ix c k W → (∀ d, D = some d → W.heap[d]? = some (.deferred (some []))) → c.wpIn (wideR ro) n P Q a₂ W) :
    CallsIn (wideR ro) (n - 1) P gf (#[.func (.yield l) #[] #[]] ++ lb) W1 (rangePost (wideR ro) n P l Q a₂) := by
  obtain ⟨rec, hrec⟩ : ∃ rec : LoopState → Option Code → Loop, rec = fun st pe => { state := st, pending := pe, fn, tmps := a.tmps, params := ps, assign, body, defers := dd } := ⟨_, rfl⟩
  have hl1 : W1.heap[l]? = some (.loop (rec .ready none)) := by rw [hrec]; exact hl
  have hlM : l < B + M := by omega
  refine callsIn_any (ro := none) (n := 0) ?_
  refine (hseq l
    (fun k W => I k W ∧ l + 1 ≤ W.heap.size ∧ W.heap[l]? = some (.loop (rec .ready none)) ∧ ∀ d, D = some d → W.heap[d]? = some (.deferred (some [])))
    (fun k W => ∃ c, Ix c k W ∧ l + 1 ≤ W.heap.size ∧ W.heap[l]? = some (.loop (rec .done (some c))) ∧ ∀ d, D = some d → W.heap[d]? = some (.deferred (some [])))
    W1 hb0 ?_ ?_ ?_ ⟨h0, by omega, hl1, fun d hd => (hD d hd).2.2⟩).mono ?_
  · rintro k A A' ⟨hi, hsz, hl, hd⟩ hs ht
    rw [hlast] at ht
    exact ⟨hI k A A' hi (by omega) (ht.mono (by omega) (by omega)), Nat.le_trans hsz ht.size, (ht.block l (by omega) (.inl (by omega))).trans hl, fun d e => (ht.block d (by have := (hD d e).2.1; omega) (.inl (by have := (hD d e).2.1; omega))).trans (hd d e)⟩
  · rintro k A A' ⟨c, hi, hsz, hl, hd⟩ hs ht
    rw [hlast] at ht
    exact ⟨c, hIx c k A A' hi (by omega) (ht.mono (by omega) (by omega)), Nat.le_trans hsz ht.size, (ht.block l (by omega) (.inl (by omega))).trans hl, fun d e => (ht.block d (by have := (hD d e).2.1; omega) (.inl (by have := (hD d e).2.1; omega))).trans (hd d e)⟩
  · rintro k x W hx hW ⟨hi, hsz, hl, hd⟩
    rw [hlast] at hW ⊢
    have hy := run_yield (P := P) (args := encs x) hl (by rw [hrec]; exact hps x)
    rw [hrec] at hy
    refine ⟨fn, _, assign, body, hy, roundIn_any (ro := none) (n := 0) (roundIn_of_wpIn trivial (hassign k x W _ hx hW hi ?_))⟩
    clear hy
    intro a' Wa hkpa hia hax
    have hlt0 : l < W.heap.size := by omega
    have hla := (hkpa.2.1 l hBl hlM hlt0).trans hl
    have hlta : l < Wa.heap.size := (Array.getElem?_eq_some_iff.1 hla).1
    have hda : ∀ d, D = some d → Wa.heap[d]? = some (.deferred (some [])) := fun d e => (hkpa.2.1 d (hD d e).1 (by have := (hD d e).2.1; omega) (by have := (hD d e).2.1; omega)).trans (hd d e)
    refine ⟨_, run_beginRound hla (by rw [hrec]), ?_⟩
    have hl2 : (Wa.putObj l (.loop { rec .ready none with state := .busy })).heap[l]? = some (.loop { rec .ready none with state := .busy }) := World.putObj_heap_same hlta
    have hd2 : ∀ d, D = some d → (Wa.putObj l (.loop { rec .ready none with state := .busy })).heap[d]? = some (.deferred (some [])) := fun d e => (World.putObj_heap_other (by have := (hD d e).2.1; omega)).trans (hda d e)
    have hw2 : KeptN N n₀ kb (l + 1) Wa (Wa.putObj l (.loop { rec .ready none with state := .busy })) := KeptN.put (by omega) (by omega) (fun b hb => Nat.lt_of_lt_of_le (hkb b hb) hBl) _ hlta
    have hsa := hkpa.1.size
    have hsb := (grownBy_putObj' Wa l (.loop { rec .ready none with state := .busy })).size
    refine wpIn_mono (hbody k x a' _ ⟨_, hl2⟩ hx (Nat.le_trans (Nat.le_trans hW hsa) (grownBy_putObj' _ _ _).size) (hI k _ _ hia (by omega) (Win.put hBl hlM _)) ((hAx x a').putObj (s := ()) _ hax hBl hla rfl)) ?_
    have fin : ∀ (jump : Option Code) (W3 : World), KeptN M n₀ kb B (Wa.putObj l (.loop { rec .ready none with state := .busy })) W3 →
        (Instr.endRound l jump).run P W3 = .ok (.bool jump.isNone) (W3.putObj l (.loop (rec (if jump.isNone then .ready else .done) jump))) ∧
        W3.heap[l]? = some (.loop { rec .ready none with state := .busy }) ∧
        (W3.putObj l (.loop (rec (if jump.isNone then .ready else .done) jump))).heap[l]? = some (.loop (rec (if jump.isNone then .ready else .done) jump)) ∧
        (∀ d, D = some d → (W3.putObj l (.loop (rec (if jump.isNone then .ready else .done) jump))).heap[d]? = some (.deferred (some []))) ∧ l + 1 ≤ W3.heap.size ∧ l + 1 ≤ (W3.putObj l (.loop (rec (if jump.isNone then .ready else .done) jump))).heap.size := fun jump W3 hk3 => by
      have hl3 := (hk3.2.1 l hBl hlM (Array.getElem?_eq_some_iff.1 hl2).1).trans hl2
      have := run_endRound (P := P) jump hl3
      rw [hrec] at this ⊢
      have h3 := (Array.getElem?_eq_some_iff.1 hl3).1
      have h4 := (grownBy_putObj' W3 l (.loop (rec (if jump.isNone then .ready else .done) jump))).size
      rw [hrec] at h4
      exact ⟨this, by rw [hrec] at hl3; exact hl3, World.putObj_heap_same (Array.getElem?_eq_some_iff.1 hl3).1, fun d e => (World.putObj_heap_other (by have := (hD d e).2.1; omega)).trans ((hk3.2.1 d (hD d e).1 (by have := (hD d e).2.1; omega) (Array.getElem?_eq_some_iff.1 (hd2 d e)).1).trans (hd2 d e)), h3, Nat.le_trans h3 h4⟩
    have kept : ∀ (jump : Option Code) (W3 : World), KeptN M n₀ kb B (Wa.putObj l (.loop { rec .ready none with state := .busy })) W3 → l < W3.heap.size → KeptN N n₀ kb (l + 1) W (W3.putObj l (.loop (rec (if jump.isNone then .ready else .done) jump))) := fun jump W3 h3 hlt =>
      (hkpa.mono (by omega) (by omega)).trans (hw2.trans ((h3.mono (by omega) (by omega)).trans (KeptN.put (by omega) (by omega) (fun b hb => Nat.lt_of_lt_of_le (hkb b hb) hBl) _ hlt)))
    rintro e a3 W3 hp
    cases e with
    | normal =>
      obtain ⟨hk3, hi3⟩ := hp
      obtain ⟨hr, hl3, hl4, hk4, hs3, hs4⟩ := fin none W3 hk3
      exact ⟨_, _, hr, .inl ⟨rfl, ⟨hI _ _ _ hi3 (by omega) (Win.put hBl hlM _), hs4, hl4, hk4⟩, kept none W3 hk3 (by omega)⟩⟩
    | ret =>
      obtain ⟨hk3, hi3⟩ := hp
      obtain ⟨hr, hl3, hl4, hk4, hs3, hs4⟩ := fin (some .ret) W3 hk3
      exact ⟨_, _, hr, .inr ⟨rfl, ⟨.ret, hIx _ _ _ _ hi3 (by omega) (Win.put hBl hlM _), hs4, hl4, hk4⟩, kept (some .ret) W3 hk3 (by omega)⟩⟩
    | exit id =>
      obtain ⟨hk3, hi3⟩ := hp
      obtain ⟨hr, hl3, hl4, hk4, hs3, hs4⟩ := fin (some (.exit id)) W3 hk3
      exact ⟨_, _, hr, .inr ⟨rfl, ⟨.exit id, hIx _ _ _ _ hi3 (by omega) (Win.put hBl hlM _), hs4, hl4, hk4⟩, kept (some (.exit id)) W3 hk3 (by omega)⟩⟩
    | goto t =>
      obtain ⟨hk3, hi3⟩ := hp
      obtain ⟨hr, hl3, hl4, hk4, hs3, hs4⟩ := fin (some (.goto t)) W3 hk3
      exact ⟨_, _, hr, .inr ⟨rfl, ⟨.goto t, hIx _ _ _ _ hi3 (by omega) (Win.put hBl hlM _), hs4, hl4, hk4⟩, kept (some (.goto t)) W3 hk3 (by omega)⟩⟩
    | panic ch => exact hp.elim
    | outgrown => exact hp.elim
  · rintro e W2 ⟨⟨v, rfl⟩, (⟨hi, hsz, hl, hd⟩ | ⟨k, hk, c, hi, hsz, hl, hd⟩)⟩
    · exact ⟨none, _, by have := run_endLoop (P := P) hl (by rw [hrec]; simp); rw [hrec] at this; exact this, hdone _ (Nat.le_trans (show l + 1 ≤ W2.heap.size by omega) (grownBy_putObj' _ _ _).size) (hI _ _ _ hi (by omega) (Win.put hBl hlM _)) (fun d e => (World.putObj_heap_other (by have := (hD d e).2.1; omega)).trans (hd d e))⟩
    · exact ⟨some c, _, by have := run_endLoop (P := P) hl (by rw [hrec]; simp); rw [hrec] at this; exact this, hstop c k _ hk (Nat.le_trans (show l + 1 ≤ W2.heap.size by omega) (grownBy_putObj' _ _ _).size) (hIx c k _ _ hi (by omega) (Win.put hBl hlM _)) (fun d e => (World.putObj_heap_other (by have := (hD d e).2.1; omega)).trans (hd d e))⟩

section
variable {α : Type} {g : Operand} {ps : Array Tmp} {assign body : Code} {N : Nat} {Q : Exit → Act → World → Prop} {tmps : Array Value} {defers : List Deferred} {w w0 : World} {gf : Nat} {lb : Array Value} {encs : α → Array Value} {n₀ : Nat} {kb : List Nat} {xs : List α} {n : Nat}
/-- A loop over an iterator, in no round: the iterator begins two blocks behind the loop's beginning. -/
theorem range_ax (hg : (⟨tmps, defers⟩ : Act).eval g = .func (.func gf) #[] lb) (eg : ∀ args w, (callFunc gf args).run P w = .ok (.enter gf args) w)
    (hseq : Gives P N gf lb encs n₀ kb xs w0) (hn : n₀ ≤ w.heap.size) (hkb : ∀ b ∈ kb, b < w.heap.size) (hb0 : Below w0.heap.size w0 w) (hps : ∀ x, (encs x).size = ps.size)
    (I : Nat → World → Prop) (Ix : Code → Nat → World → Prop) (hI : ∀ k A A', I k A → w.heap.size ≤ A.heap.size → Win (N + 2) w.heap.size A A' → I k A') (hIx : ∀ c k A A', Ix c k A → w.heap.size ≤ A.heap.size → Win (N + 2) w.heap.size A A' → Ix c k A') (h0 : I 0 w) (Ax : α → Act → World → Prop) (hAx : ∀ x a', OwnFrom w.heap.size (fun (_ : Unit) W => Ax x a' W))
    (hassign : ∀ (l k : Nat) (x : α) (W : World) (K : Act → World → Prop), xs[k]? = some x → w.heap.size + 2 + N ≤ W.heap.size → I k W → (∀ a' W', KeptN (N + 2) n₀ kb w.heap.size W W' → I k W' → Ax x a' W' → K a' W') →
      assign.wpIn (wideR (some l)) 0 P (Exit.then K (fun _ _ _ => False)) { tmps := (ps.zip (encs x)).foldl (fun t (p, v) => t.setIfInBounds p v) tmps, defers := [] } W)
    (hbody : ∀ (l k : Nat) (x : α) (a' : Act) (W : World), l = w.heap.size + 1 → (∃ r, W.heap[l]? = some (.loop r)) → xs[k]? = some x → w.heap.size + 2 + N ≤ W.heap.size → I k W → Ax x a' W → body.wpIn (wideR (some l)) 0 P (postN (N + 2) n₀ kb w.heap.size I Ix k W) a' W)
    (hdone : ∀ (W : World), w.heap.size + 2 ≤ W.heap.size → I xs.length W → W.heap[w.heap.size]? = some (.deferred (some [])) → Q .normal { tmps := tmps, defers := { target := .collected w.heap.size, args := #[] } :: defers } W)
    (hstop : ∀ (c : Code) (k : Nat) (W : World), k ≤ xs.length → w.heap.size + 2 ≤ W.heap.size → Ix c k W → W.heap[w.heap.size]? = some (.deferred (some [])) → c.wpIn (wideR none) n P Q { tmps := tmps, defers := { target := .collected w.heap.size, args := #[] } :: defers } W) :
    (Code.rangeFunc g ps assign body).wpIn (wideR none) n P Q { tmps := tmps, defers := defers } w := by
  refine wpIn_rangeFunc fun fn _ => ?_
  obtain ⟨r0, hr0⟩ : ∃ r0 : Loop, ({ state := .ready, pending := none, fn, tmps := tmps, params := ps, assign, body, defers := w.heap.size } : Loop) = r0 := ⟨_, rfl⟩
  refine ⟨w.heap.size + 1, [{ target := .collected w.heap.size, args := #[] }], (w.alloc (.deferred (some []))).alloc (.loop r0), { target := .fn (.func gf) lb, args := #[.func (.yield (w.heap.size + 1)) #[] #[]] }, (w.alloc (.deferred (some []))).alloc (.loop r0), gf,
    #[.func (.yield (w.heap.size + 1)) #[] #[]] ++ lb, (w.alloc (.deferred (some []))).alloc (.loop r0), ?_, ?_, fun _ _ => trivial, ?_, fun h => (by cases h), ?_⟩
  · rw [← hr0]; exact run_enterLoop_outer _ _ _ _ _
  · simp only [resolve, hg]
    simp [go_sem]
  · simp [invoke, go_sem, eg]
  · have hL : ((w.alloc (.deferred (some []))).alloc (.loop r0)).heap[w.heap.size + 1]? = some (.loop r0) := by
      have := World.alloc_heap_new (w.alloc (.deferred (some []))) (.loop r0); rwa [World.size_alloc] at this
    have hK : ((w.alloc (.deferred (some []))).alloc (.loop r0)).heap[w.heap.size]? = some (.deferred (some [])) := (Below.heap_alloc _ _ _ (by simp)).trans (World.alloc_heap_new w _)
    have hb2 : Below w.heap.size w ((w.alloc (.deferred (some []))).alloc (.loop r0)) := ((Below.refl _ w).alloc (Nat.le_refl _) _).alloc (by simp) _
    refine core (a := { tmps := tmps, defers := defers }) (ro := none) (M := N + 2) (D := some w.heap.size) hseq hn hkb (by omega : w.heap.size ≤ w.heap.size + 1) (by simp) (by omega) (by rw [hL, ← hr0]) (hb0.trans (hb2.mono hb0.size)) hps
      (fun d hd => by cases hd; exact ⟨Nat.le_refl _, by omega, hK⟩) I Ix hI hIx (hI 0 _ _ h0 (Nat.le_refl _) (Win.of_below hb2)) Ax hAx (fun k x W K => hassign _ k x W K) (fun k x a' W hr => hbody _ k x a' W rfl hr)
      (fun W hs hi hd => hdone W hs hi (hd _ rfl)) (fun c k W hk hs hi hd => hstop c k W hk hs hi (hd _ rfl))
/-- .. within a round of loop l₀: the iterator begins one block behind. -/
theorem range_ax_in {l₀ : Nat} {r₀ : Loop} (hl₀ : w.heap[l₀]? = some (.loop r₀)) (hg : (⟨tmps, defers⟩ : Act).eval g = .func (.func gf) #[] lb) (eg : ∀ args w, (callFunc gf args).run P w = .ok (.enter gf args) w)
    (hseq : Gives P N gf lb encs n₀ kb xs w0) (hn : n₀ ≤ w.heap.size) (hkb : ∀ b ∈ kb, b < w.heap.size) (hb0 : Below w0.heap.size w0 w) (hps : ∀ x, (encs x).size = ps.size)
    (I : Nat → World → Prop) (Ix : Code → Nat → World → Prop) (hI : ∀ k A A', I k A → w.heap.size ≤ A.heap.size → Win (N + 1) w.heap.size A A' → I k A') (hIx : ∀ c k A A', Ix c k A → w.heap.size ≤ A.heap.size → Win (N + 1) w.heap.size A A' → Ix c k A') (h0 : I 0 w) (Ax : α → Act → World → Prop) (hAx : ∀ x a', OwnFrom w.heap.size (fun (_ : Unit) W => Ax x a' W))
    (hassign : ∀ (l k : Nat) (x : α) (W : World) (K : Act → World → Prop), xs[k]? = some x → w.heap.size + 1 + N ≤ W.heap.size → I k W → (∀ a' W', KeptN (N + 1) n₀ kb w.heap.size W W' → I k W' → Ax x a' W' → K a' W') →
      assign.wpIn (wideR (some l)) 0 P (Exit.then K (fun _ _ _ => False)) { tmps := (ps.zip (encs x)).foldl (fun t (p, v) => t.setIfInBounds p v) tmps, defers := [] } W)
    (hbody : ∀ (l k : Nat) (x : α) (a' : Act) (W : World), l = w.heap.size → (∃ r, W.heap[l]? = some (.loop r)) → xs[k]? = some x → w.heap.size + 1 + N ≤ W.heap.size → I k W → Ax x a' W → body.wpIn (wideR (some l)) 0 P (postN (N + 1) n₀ kb w.heap.size I Ix k W) a' W)
    (hdone : ∀ (W : World), w.heap.size + 1 ≤ W.heap.size → I xs.length W → Q .normal { tmps := tmps, defers := defers } W)
    (hstop : ∀ (c : Code) (k : Nat) (W : World), k ≤ xs.length → w.heap.size + 1 ≤ W.heap.size → Ix c k W → c.wpIn (wideR (some l₀)) n P Q { tmps := tmps, defers := defers } W) :
    (Code.rangeFunc g ps assign body).wpIn (wideR (some l₀)) n P Q { tmps := tmps, defers := defers } w := by
  refine wpIn_rangeFunc fun fn _ => ?_
  obtain ⟨r0, hr0⟩ : ∃ r0 : Loop, ({ state := .ready, pending := none, fn, tmps := tmps, params := ps, assign, body, defers := r₀.defers } : Loop) = r0 := ⟨_, rfl⟩
  refine ⟨w.heap.size, [], w.alloc (.loop r0), { target := .fn (.func gf) lb, args := #[.func (.yield w.heap.size) #[] #[]] }, w.alloc (.loop r0), gf,
    #[.func (.yield w.heap.size) #[] #[]] ++ lb, w.alloc (.loop r0), ?_, ?_, fun _ _ => trivial, ?_, fun h => (by cases h), ?_⟩
  · rw [← hr0]; exact run_enterLoop_inner hl₀ _ _ _ _ _
  · simp only [resolve, hg]
    simp [go_sem]
  · simp [invoke, go_sem, eg]
  · have hL : (w.alloc (.loop r0)).heap[w.heap.size]? = some (.loop r0) := World.alloc_heap_new w _
    have hb2 : Below w.heap.size w (w.alloc (.loop r0)) := (Below.refl _ w).alloc (Nat.le_refl _) _
    refine core (a := { tmps := tmps, defers := defers }) (ro := some l₀) (M := N + 1) (D := none) hseq hn hkb (Nat.le_refl w.heap.size) (by simp) (by omega) (by rw [hL, ← hr0]) (hb0.trans (hb2.mono hb0.size)) hps
      (fun d hd => by cases hd) I Ix hI hIx (hI 0 _ _ h0 (Nat.le_refl _) (Win.of_below hb2)) Ax hAx (fun k x W K => hassign _ k x W K) (fun k x a' W hr => hbody _ k x a' W rfl hr)
      (fun W hs hi _ => hdone W hs hi) (fun c k W hk hs hi _ => hstop c k W hk hs hi)
end
end Go.Proofs.Ytejcjonlnijbkaa.SeqN

/- Cuts behind a region: its ways, which end alike, are told once. Over any program. -/
namespace Go.Proofs.Ytejcjonlnijbkaa.Cut
open Go Go.RowKit Range
set_option linter.unusedVariables false
/-- A normal end with this frame, in this world. -/
def PostEq (A : Act) (W1 : World) : Exit → Act → World → Prop := fun ex ac u => match ex with
  | .normal => ac = A ∧ u = W1
  | _ => False
theorem cut_eq {F : Fence} {n : Nat} {P : Program} {c : Code} {Q : Exit → Act → World → Prop} {act : Act} {u : World} {A : Act} {W1 : World} (h : c.wpIn F n P (PostEq A W1) act u) (k : Q Exit.normal A W1) : c.wpIn F n P Q act u :=
  Code.wpIn_mono (fun ex ac u1 e => by
    cases ex <;> first | exact (e : False).elim | (obtain ⟨rfl, rfl⟩ := (e : ac = A ∧ u1 = W1); exact k)) h
/-- A part of a code, by its way from the top: 0 the left one, the assignment, the first way; else the other one. -/
def pick : List Nat → Code → Code
  | [], c => c
  | 0 :: p, .seq x _ => pick p x
  | _ :: p, .seq _ y => pick p y
  | _ :: p, .block _ c => pick p c
  | _ :: p, .loop c => pick p c
  | 0 :: p, .rangeFunc _ _ x _ => pick p x
  | _ :: p, .rangeFunc _ _ _ y => pick p y
  | 0 :: p, .cond _ x _ => pick p x
  | _ :: p, .cond _ _ y => pick p y
  | _, c => c
def code (f : Func) : Code := f.body.getD .skip
end Go.Proofs.Ytejcjonlnijbkaa.Cut

/- A map whose keys are whole numbers, as the list of its entries in the order of their insertion. Over any program. -/
namespace Go.Proofs.Ytejcjonlnijbkaa.MapI
open Go Go.RowKit
set_option linter.unusedVariables false

def ents (l : List (Int × Value)) : List MapEntry := l.mapIdx fun i p => ⟨.int .i64 p.1, p.2, i⟩
def obj (l : List (Int × Value)) : Obj := .map (ents l).toArray l.length
def look (l : List (Int × Value)) (y : Int) : Option Value := (l.find? (fun p => p.1 == y)).map (·.2)

theorem look_nil (y : Int) : look [] y = none := rfl
theorem look_cons (k : Int) (v : Value) (l : List (Int × Value)) (y : Int) : look ((k, v) :: l) y = if k = y then some v else look l y := by
  unfold look; by_cases h : k = y <;> simp [h]
theorem ents_push (l : List (Int × Value)) (k : Int) (v : Value) : ents (l ++ [(k, v)]) = ents l ++ [⟨.int .i64 k, v, l.length⟩] := by
  unfold ents; rw [List.mapIdx_append]; simp

theorem findNow_from (y : Int) : ∀ (l : List (Int × Value)) (i j : Nat), Instr.findNow (.int .i64) (.int .i64 y) (l.mapIdx fun n p => (⟨.int .i64 p.1, p.2, n + j⟩ : MapEntry)) i = some (match look l y with | some v => some (i + (l.findIdx (fun p => p.1 == y)), v) | none => none)
  | [], i, j => by simp [Instr.findNow, look_nil]
  | (k, v) :: l, i, j => by
    rw [List.mapIdx_cons]
    have e : (fun (n : Nat) (p : Int × Value) => (⟨.int .i64 p.1, p.2, n + 1 + j⟩ : MapEntry)) = fun n p => ⟨.int .i64 p.1, p.2, n + (j + 1)⟩ := by funext n p; congr 1; omega
    unfold Instr.findNow
    rw [look_cons]
    by_cases h : k = y
    · subst h; simp [Instr.sameNow, List.findIdx_cons]
    · have h' : (y == k) = false := by simpa using fun e => h e.symm
      have h2 : (k == y) = false := by simpa using h
      simp only [Instr.sameNow, h', if_true, if_neg h]
      rw [e, findNow_from y l (i + 1) (j + 1)]
      rw [List.findIdx_cons]; simp only [h2]
      cases look l y <;> simp; omega
theorem findNow_ents (l : List (Int × Value)) (y : Int) : Instr.findNow (.int .i64) (.int .i64 y) (ents l) 0 = some (match look l y with | some v => some (l.findIdx (fun p => p.1 == y), v) | none => none) := by
  have := findNow_from y l 0 0
  simpa [ents] using this

section
variable {P : Program} {w : World} {t k e m : Nat} {l : List (Int × Value)} {y : Int}
theorem run_key (hk : P.underlying k = some (.int .i64)) (em : Bool) : (Instr.checkKey em 10000 k (.int .i64 y)).run P w = .ok () w := by
  unfold Instr.checkKey
  simp [run_underlying hk, Result.andThen]
theorem run_find (hk : P.underlying k = some (.int .i64)) : (Instr.findKey k (.int .i64 y) (ents l)).run P w = .ok (match look l y with | some v => some (l.findIdx (fun p => p.1 == y), v) | none => none) w := by
  unfold Instr.findKey
  simp [run_underlying hk, Result.andThen, findNow_ents]
theorem look_some (ht : P.underlying t = some (.map k e)) (hk : P.underlying k = some (.int .i64)) (hb : w.heap[m]? = some (obj l)) {v : Value} (h : look l y = some v) (c : Bool) :
    (Instr.lookup t (.map (some m)) (.int .i64 y) c).run P w = .ok (if c then .tuple #[v, .bool true] else v) w := by
  unfold obj at hb
  have := run_find (P := P) (w := w) (l := l) (y := y) hk
  rw [h] at this
  simp [Instr.lookup, run_underlying ht, MapKept.run_getObj_map hb, run_key hk, this, Result.andThen]
theorem look_none (ht : P.underlying t = some (.map k e)) (hk : P.underlying k = some (.int .i64)) (hb : w.heap[m]? = some (obj l)) {z : Value} (hz : (zeroValue e).run P w = .ok z w) (h : look l y = none) (c : Bool) :
    (Instr.lookup t (.map (some m)) (.int .i64 y) c).run P w = .ok (if c then .tuple #[z, .bool false] else z) w := by
  unfold obj at hb
  have := run_find (P := P) (w := w) (l := l) (y := y) hk
  rw [h] at this
  simp [Instr.lookup, run_underlying ht, MapKept.run_getObj_map hb, run_key hk, this, hz, Result.andThen]
theorem put_new (ht : P.underlying t = some (.map k e)) (hk : P.underlying k = some (.int .i64)) (hb : w.heap[m]? = some (obj l)) (h : look l y = none) (v : Value) :
    (Instr.mapUpdate t (.map (some m)) (.int .i64 y) v).run P w = .ok () (w.putObj m (obj (l ++ [(y, v)]))) := by
  have hb' := hb
  unfold obj at hb
  have := run_find (P := P) (w := w) (l := l) (y := y) hk
  rw [h] at this
  simp [Instr.mapUpdate, run_underlying ht, MapKept.run_getObj_map hb, run_key hk, this, MapKept.run_setObj_map _ hb, Result.andThen, obj, ents_push, World.putObj]
end
end Go.Proofs.Ytejcjonlnijbkaa.MapI
