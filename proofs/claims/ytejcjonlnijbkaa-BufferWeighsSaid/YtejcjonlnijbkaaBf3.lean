/- A function that leaves with several marks of loops over iterators among its deferred calls. Over any program. -/
import Derived.Test.YtejcjonlnijbkaaKs
import Derived.RangeFuncLeaves
import Derived.Test.YtejcjonlnijbkaaBf1
import Derived.Test.YtejcjonlnijbkaaSr
import Derived.Maps.OwnIn
import Derived.Test.YtejcjonlnijbkaaOpen
import Derived.Test.YtejcjonlnijbkaaProg
import Derived.KernelRfl
import Derived.Test.YtejcjonlnijbkaaBf2
import Derived.Test.YtejcjonlnijbkaaPEx20
namespace Go.Proofs.Ytejcjonlnijbkaa.Marks
open Go Go.RowKit Range
set_option linter.unusedVariables false
def marks (Ds : List Nat) : List Deferred := Ds.map fun D => { target := .collected D, args := #[] }
def closed (w : World) : List Nat → World
  | [] => w
  | D :: Ds => closed (w.putObj D (.deferred none)) Ds
/-- The marks' blocks: apart, and not yet closed. -/
structure Open (w : World) (Ds : List Nat) : Prop where
  nd : Ds.Nodup
  open_ : ∀ D ∈ Ds, w.heap[D]? = some (.deferred (some []))
theorem closed_other : ∀ (Ds : List Nat) {w : World} {i : Nat}, i ∉ Ds → (closed w Ds).heap[i]? = w.heap[i]?
  | [], _, _, _ => rfl
  | D :: Ds, w, i, h => by
    simp at h
    exact (closed_other Ds h.2).trans (World.putObj_heap_other (by omega))
theorem closed_below : ∀ (Ds : List Nat) {w : World} {B : Nat}, (∀ D ∈ Ds, B ≤ D) → B ≤ w.heap.size → Below B w (closed w Ds)
  | [], w, B, _, _ => Below.refl _ _
  | D :: Ds, w, B, h, hs => by
    have g := grownBy_putObj' w D (.deferred none)
    exact ((Below.refl B w).grown g hs (fun k e => by cases e; exact h D (by simp))).trans (closed_below Ds (fun D' h' => h D' (by simp [h'])) (Nat.le_trans hs g.size))
theorem leaves {F : Fence} {n : Nat} {P : Program} {fn : Func} {tmps : Array Value} {R : Ending → World → Prop} : ∀ (Ds : List Nat) {w : World}, Open w Ds → LeavesInM F n P fn tmps R [] .returning (closed w Ds) → LeavesInM F n P fn tmps R (marks Ds) .returning w
  | [], _, _, h => h
  | D :: Ds, w, ho, h => by
    refine ⟨by simp, .inl ⟨D, _, rfl, run_takeDeferred (ho.open_ D (by simp)), leaves Ds ⟨(List.nodup_cons.1 ho.nd).2, fun D' hD' => ?_⟩ h⟩⟩
    have hne : D' ≠ D := fun e => (List.nodup_cons.1 ho.nd).1 (e ▸ hD')
    exact (World.putObj_heap_other hne).trans (ho.open_ D' (by simp [hD']))
theorem Open.nil (w : World) : Open w [] := ⟨List.nodup_nil, fun D h => by cases h⟩
theorem Open.cons {w w1 : World} {Ds : List Nat} {D : Nat} (h : Open w Ds) (hb : ∀ i ∈ Ds, w1.heap[i]? = w.heap[i]?) (hD : w1.heap[D]? = some (.deferred (some []))) (hn : D ∉ Ds) : Open w1 (D :: Ds) :=
  ⟨List.nodup_cons.2 ⟨hn, h.nd⟩, fun i hi => by
    rcases List.mem_cons.1 hi with rfl | hi
    · exact hD
    · exact (hb i hi).trans (h.open_ i hi)⟩
theorem Open.of {w w1 : World} {Ds : List Nat} (h : Open w Ds) (hb : ∀ i ∈ Ds, w1.heap[i]? = w.heap[i]?) : Open w1 Ds := ⟨h.nd, fun i hi => (hb i hi).trans (h.open_ i hi)⟩
end Go.Proofs.Ytejcjonlnijbkaa.Marks

/- A row that a loop's body appends to, wherever its block lies. Over any program. -/
namespace Go.Proofs.Ytejcjonlnijbkaa.Row
open Go Go.RowKit Range
set_option linter.unusedVariables false
section
variable {E : TypeId} {m B n₀ b0 : Nat} {w0 W W1 W2 : World} {v v' : Value} {n : Nat} {cells : List Value} {cs : List Value}
theorem OwnR.fr (h : OwnR E m B w0 W v n cells) {O : Nat → Prop} (hf : Buf.Fr O W W1) (hO : ∀ g, v.ownBlock = some g → ¬ O g) (hb : Below w0.heap.size w0 W1) : OwnR E m B w0 W1 v n cells := by
  refine ⟨⟨h.row.1, ?_⟩, hb, h.lo, Nat.le_trans h.hi hf.size⟩
  rcases h.row.2 with h2 | ⟨g, cap, cur, h1, h2, h3, h4⟩
  · exact .inl h2
  · exact .inr ⟨g, cap, cur, h1, h2, (hf.block g (Array.getElem?_eq_some_iff.1 h3).1 (hO g (by rw [h1]; rfl))).trans h3, h4⟩
theorem OwnR.blk (h : OwnR E m B w0 W v n cells) {g : Nat} (hg : v.ownBlock = some g) : B ≤ g ∧ g < W.heap.size := by
  obtain ⟨h1, h2⟩ := h.row.lt g hg
  exact ⟨h1, h2⟩
/-- Behind 'x = append(x, ..)', x a variable in a box. -/
theorem pushed_fr {o : Obj} (h : OwnR E m B w0 W v n cells) (hb0 : b0 < B) (hw0 : w0.heap.size ≤ b0) (hg : (W.alloc o).grownBy W2 v.ownBlock) (h2 : OwnR E m B w0 W2 v' (n + 1) (cells ++ cs)) (hbx : (W.cell? ⟨b0, 0, none⟩).isSome = true) (hfr : W.frozen? ⟨b0, 0, none⟩ = false) :
    Buf.Fr (fun i => i = b0 ∨ v.ownBlock = some i) W (W2.setCell ⟨b0, 0, none⟩ v') ∧ OwnR E m B w0 (W2.setCell ⟨b0, 0, none⟩ v') v' (n + 1) (cells ++ cs) ∧
    (W2.setCell ⟨b0, 0, none⟩ v').cell? ⟨b0, 0, none⟩ = some v' ∧ (W2.setCell ⟨b0, 0, none⟩ v').frozen? ⟨b0, 0, none⟩ = false ∧
    W2.cell? ⟨b0, 0, none⟩ = W.cell? ⟨b0, 0, none⟩ ∧ W2.frozen? ⟨b0, 0, none⟩ = W.frozen? ⟨b0, 0, none⟩ := by
  have hhi := h.hi
  have hlt := fun k e => (h.row.lt k e).1
  have same : ∀ b, b < W.heap.size → v.ownBlock ≠ some b → W2.heap[b]? = W.heap[b]? := fun b hb hne =>
    (hg.block b (by simp; omega) (fun e => hne e.symm)).trans (Below.heap_alloc W o b hb)
  have sb := same b0 (by omega) (fun e => by have := hlt b0 e; omega)
  have hs := hg.size
  simp at hs
  refine ⟨⟨hg.os, hg.tape, hg.output, by simp; omega, fun i hi hn => (Below.heap_setCell _ _ _ _ (fun e => hn (.inl e))).trans (same i hi (fun e => hn (.inr e)))⟩, h2.set hw0 hb0 _ _, ?_, ?_, World.cell?_of_block (w := W) (a := ⟨b0, 0, none⟩) sb, World.frozen?_of_block (w := W) (a := ⟨b0, 0, none⟩) sb⟩
  · exact World.cell?_setCell_same' _ _ _ (by rw [World.cell?_of_block (w := W) (a := ⟨b0, 0, none⟩) sb]; exact hbx)
  · rw [World.frozen?_setCell, World.frozen?_of_block (w := W) (a := ⟨b0, 0, none⟩) sb]; exact hfr
/-- append, of one element, within a fence: where the new row lies. -/
theorem app_at {P : Program} {F : Fence} {nn : Nat} {ops : Array Oper} {rest : List Oper} {o : Oper} {a : Act} {Q : Exit → Act → World → Prop} (hgd : o.guard = none) {T : TypeId} (s x : Operand)
    (ho : o.op = .call { callee := .builtin .append, args := #[s, x], argTypes := #[T, T] }) {z : Value} {bytes : Nat} (hT : P.underlying T = some (.slice E)) (hi : (P.info? E).map (fun i => (i.zero, i.size, i.bytes)) = some (some z, m, bytes)) (hz : z.cells.size = m) (hm : 0 < m) (hby : bytes ≤ 1000)
    (hs : a.eval s = v) (hown : OwnR E m B w0 W v n cells) (b : Nat) (cs : List Value) (hx : a.eval x = .slice (some ⟨b, 0, none⟩) 1 1) (hb : ∀ j u, cs[j]? = some u → W.cell? ⟨b, j, none⟩ = some u) (hl : cs.length = m) (h1 : ∀ u ∈ cs, u.oneCell' = true) (hn : n ≤ 100000000000)
    (h : ∀ v' w', OwnR E m B w0 w' v' (n + 1) (cells ++ cs) → W.grownBy w' v.ownBlock → (v'.ownBlock = v.ownBlock ∨ v'.ownBlock = some W.heap.size) → wpListIn F nn P ops Q rest (a.put o.dst v') w') : wpListIn F nn P ops Q (o :: rest) a W := by
  obtain ⟨i0, hi0, hz0, hz1, hz2⟩ := info_parts hi
  refine wpListIn_append_own_at _ hgd s x T ho B E i0 z m bytes hT hi0 hz0 hz1 hz2 hz hm v n _ hs hown.row ⟨b, 0, none⟩ 1 1 cs hx (by omega) ?_ h1 (by unfold maxLen; omega) ?_ hown.hi ?_
  · intro j u hj
    rw [addr_add, Nat.zero_add]; exact hb j u hj
  · exact Nat.le_trans (Nat.mul_le_mul_left (n + 1) hby) (by omega)
  · intro v' w' h2 h3 _ h5
    exact h v' w' ⟨h2, hown.bel.grown h3 hown.bel.size (fun k hk => Nat.le_trans hown.lo (hown.row.lt k hk).1), hown.lo, Nat.le_trans hown.hi h3.size⟩ h3 h5
end
end Go.Proofs.Ytejcjonlnijbkaa.Row

/- A point's and an edge's numbers, as the rows open them. -/
namespace Go.Proofs.Ytejcjonlnijbkaa
open Go Go.RowKit
theorem flatI64 : Open.Flat Try.prog 2 [.i64] := .int Try.underlying2 (by kernel_rfl)
theorem flatPoint : Open.Flat Try.prog 36 [.i64, .i64] := Open.Flat.struct Try.underlying36 (by kernel_rfl) (.cons (k1 := [.i64]) (k2 := [.i64]) flatI64 rfl (.cons (k1 := [.i64]) (k2 := []) flatI64 rfl (.nil _)))
theorem flatEdge : Open.Flat Try.prog 38 [.i64, .i64, .i64, .i64] := Open.Flat.struct Try.underlying38 (by kernel_rfl) (.cons (k1 := [.i64, .i64]) (k2 := [.i64, .i64]) flatPoint rfl (.cons (k1 := [.i64, .i64]) (k2 := []) flatPoint rfl (.nil _)))
end Go.Proofs.Ytejcjonlnijbkaa

/- Two numbers side by side, as the rows open them. -/
namespace Go.Proofs.Ytejcjonlnijbkaa
open Go Go.RowKit
theorem flatU8b : Open.Flat Try.prog 5 [.u8] := .int Try.underlying5 (by kernel_rfl)
theorem flatTwo8 : Open.Flat Try.prog 22 [.u8, .u8] := Open.Flat.array (m := 2) Try.underlying22 (by kernel_rfl) flatU8b
end Go.Proofs.Ytejcjonlnijbkaa

/- The buffer laws' list of all weights, walked. For all buffers. -/
namespace Go.Proofs.Ytejcjonlnijbkaa.Buf
open Go Go.RowKit Go.Shelf Range Go.Proofs.Ytejcjonlnijbkaa.PE Go.Proofs.YtejcjonlnijbkaaW.PrintWords Go.Proofs.YtejcjonlnijbkaaW.PrintLast Go.Proofs.YtejcjonlnijbkaaW.PrintMore Go.Proofs.Ytejcjonlnijbkaa.Num
set_option maxRecDepth 100000
set_option linter.unusedVariables false
set_option linter.unusedSimpArgs false
attribute [local go_sem] Oper.semAt_some

/-- The weights of all pixels, row by row. -/
def allWts (W : Nat) (h : Nat) (F : Int → List Cl) : List Int := (List.range h).flatMap fun (y : Nat) => (List.range W).map fun x => wt x (F y)
theorem allWts_snoc (W h : Nat) (F : Int → List Cl) : allWts W (h + 1) F = allWts W h F ++ (List.range W).map fun x => wt x (F (h : Nat)) := by
  unfold allWts; rw [List.range_succ, List.flatMap_append]; simp
theorem allWts_len (W h : Nat) (F : Int → List Cl) : (allWts W h F).length = h * W := by
  induction h with
  | zero => simp [allWts]
  | succ h ih => rw [allWts_snoc, List.length_append, ih]; simp [Nat.succ_mul]
theorem info_i64 : (Try.prog.info? 2).map (fun i => (i.zero, i.size, i.bytes)) = some (some (.int .i64 0), 1, 8) := by kernel_rfl
def encI (x : Int) : List Value := [.int .i64 x]

theorem newI (w : World) (x : Int) (t : TypeId) : ∀ j u, (encI x)[j]? = some u → (w.alloc (.cells #[.int .i64 x] t)).cell? ⟨w.heap.size, j, none⟩ = some u := by
  intro j u hj
  rcases j with _ | j <;> simp [encI] at hj
  subst hj; go_simp
theorem oneI (x : Int) : ∀ u ∈ encI x, u.oneCell' = true := by
  intro u hu
  simp [encI] at hu
  subst hu; rfl
set_option maxHeartbeats 8000000 in
theorem weights_calls (W b m : Nat) (h : Nat) (l : List (Int × Nat)) (F : Int → List Cl) (hW : 1 ≤ W ∧ W ≤ 4096) (hh : h ≤ 4096) (w : World) (hB : Buf w b m W h l F F) :
    Calls Try.prog 21 #[.pointer (some ⟨b, 0, none⟩), .int .i64 (h : Int)] w fun e w' => ∃ v, e = .returned v ∧ Row.OwnR 2 1 w.heap.size w w' v (h * W) ((allWts W h F).flatMap encI) := by
  have HB := Lib.hid hB
  have hol : ∀ i, Own b m l i → i < w.heap.size := fun i hi => hB.lt hi
  have RC := Lib.hid (fun y w => Row_calls b y w)
  clear hB
  refine Seq.calls_of (n := 0) (callsIn_of_wp_marks Try.func21 rfl trivial ?_ rfl)
  simp only [Try.ntmps21, List.size_toArray, List.length_cons, List.length_nil, Nat.reduceAdd, Nat.reduceSub, Array.replicate_succ, Array.replicate_zero, List.push_toArray, List.append_toArray, List.nil_append, List.cons_append]
  gi_wp2
  have NF := fun c => neq_func_nil (P := Try.prog) Try.underlying30 (.func 40) #[] c
  refine wpIn_loop (fun a V => ∃ (y : Nat) (Ds : List Nat) (u6 u7 u9 u12 u13 u14 u15 u16 u17 u18 u19 u20 u21 u22 u23 u24 u25 u26 : Value), a = { tmps := #[.pointer (some ⟨b, 0, none⟩), .int .i64 (h : Int), undef, undef, .slice none 0 0, .pointer (some ⟨w.heap.size, 0, none⟩), u6, u7, undef, u9, .int .i64 (h : Int), .int .i64 (y : Int), u12, u13, u14, u15, u16, u17, u18, u19, u20, u21, u22, u23, u24, u25, u26, undef], defers := Marks.marks Ds } ∧
    y ≤ h ∧ w.heap.size < V.heap.size ∧ Marks.Open V Ds ∧ (∀ D ∈ Ds, w.heap.size < D) ∧ Below w.heap.size w V ∧ ∃ v, V.cell? ⟨w.heap.size, 0, none⟩ = some v ∧ V.frozen? ⟨w.heap.size, 0, none⟩ = false ∧ Row.OwnR 2 1 (w.heap.size + 1) w V v (y * W) ((allWts W y F).flatMap encI)) (fun a _ => h - (intOf (a.tmps.getD 11 undef)).toNat) ?start ?round
  case start =>
    exact ⟨0, [], _, _, _, _, _, _, _, _, _, _, _, _, _, _, _, _, _, _, rfl, Nat.zero_le _, by simp, Marks.Open.nil _, fun D hD => (by cases hD), (Below.refl _ w).alloc (Nat.le_refl _) _, .slice none 0 0, by go_simp, by go_simp, by simpa [allWts] using Row.OwnR.nil ((Below.refl _ w).alloc (Nat.le_refl _) _) (by omega) (by simp)⟩
  case round =>
    rintro a V ⟨y, Ds, u6, u7, u9, u12, u13, u14, u15, u16, u17, u18, u19, u20, u21, u22, u23, u24, u25, u26, rfl, hy, hsz, hop, hDs, hbl, v, c1, f1, hO⟩
    by_cases hlt : y < h
    · have hyl : (y : Int) < (h : Int) := by omega
      gi_wp2_with (gi_at_call 17; refine (Seq.of_calls (RC.out _ _)).mono ?_; rintro e w2 ⟨rfl, rfl⟩)
      obtain ⟨V1, hV1⟩ : ∃ V1, ((V.alloc (.cells #[.pointer (some ⟨b, 0, none⟩)] 26)).alloc (.cells #[.int .i64 (y : Int)] 3)) = V1 := ⟨_, rfl⟩
      have hb1 : Below V.heap.size V V1 := by rw [← hV1]; exact ((Below.refl _ V).alloc (Nat.le_refl _) _).alloc (by simp) _
      have hs1 : V1.heap.size = V.heap.size + 2 := by rw [← hV1]; simp
      have p1 : V1.cell? ⟨V.heap.size + 1, 0, none⟩ = some (.int .i64 (y : Int)) := by subst hV1; go_simp
      have p2 : V1.cell? ⟨V.heap.size, 0, none⟩ = some (.pointer (some ⟨b, 0, none⟩)) := by subst hV1; go_simp
      rw [hV1]
      clear hV1
      have hw1 : Below w.heap.size w V1 := hbl.trans (hb1.mono hbl.size)
      have B1 : Buf V1 b m W h l F F := HB.out.of (fun i hi => hw1.block i (hol i hi))
      have q1 := (hb1.cell (p := ⟨w.heap.size, 0, none⟩) hsz).trans c1
      have q2 := (hb1.frozen (p := ⟨w.heap.size, 0, none⟩) hsz).trans f1
      have O1 : Row.OwnR 2 1 (w.heap.size + 1) w V1 v (y * W) ((allWts W y F).flatMap encI) := hO.below hb1
      have op1 := hop.of (w1 := V1) (fun i hi => hb1.block i (Array.getElem?_eq_some_iff.1 (hop.open_ i hi)).1)
      have hDlt : ∀ D ∈ Ds, D < V.heap.size := fun D hD => (Array.getElem?_eq_some_iff.1 (hop.open_ D hD)).1
      have hvb : ∀ g, v.ownBlock = some g → g < V1.heap.size := fun g hg => (O1.blk hg).2
      have RG := Lib.hid (row_gives h W b m l F w.heap.size (V.heap.size + 1) V.heap.size (y : Int) hW V1 B1 (by omega) (by omega) p1 p2)
      have hrw : rowWts W h F (y : Int) = wts W (F (y : Int)) := if_pos ⟨by omega, hyl⟩
      rw [hrw] at RG
      refine KdX.with_frame fun T hT => ?_
      refine SeqN.range_ax (N := 1) (n₀ := w.heap.size) (by rw [hT]; rfl) (enters_of Try.func40 (by kernel_rfl) rfl) RG.out (by omega) (fun b hb => by obtain ⟨p, hp, rfl⟩ := List.mem_map.1 hb; have := hol p.2 (.inr (.inr ⟨p, hp, rfl⟩)); omega) (Below.refl _ _) (fun _ => rfl)
        (fun k A => V1.heap.size ≤ A.heap.size ∧ Below w.heap.size w A ∧ (∀ D ∈ Ds, A.heap[D]? = V1.heap[D]?) ∧ ∃ v, A.cell? ⟨w.heap.size, 0, none⟩ = some v ∧ A.frozen? ⟨w.heap.size, 0, none⟩ = false ∧ Row.OwnR 2 1 (w.heap.size + 1) w A v (y * W + k) ((allWts W y F ++ ((wts W (F (y : Int))).take k).map (·.2)).flatMap encI) ∧ ∀ g, v.ownBlock = some g → g < V1.heap.size ∨ V1.heap.size + 3 ≤ g)
        (fun c k A => False)
        (fun k A B hs hA hw => by
          obtain ⟨h0, h1, h2, v, h3, h4, h5, h6⟩ := hs
          have hfw := Fr.win hw (O := fun i => V1.heap.size ≤ i ∧ i < V1.heap.size + 3) (fun i h1 h2 _ => ⟨h1, h2⟩)
          exact ⟨Nat.le_trans h0 hw.size, h1.trans (hw.below (by omega) (by omega)), fun D hD => (hfw.block D (by have := hDlt D hD; omega) (by have := hDlt D hD; omega)).trans (h2 D hD), v, (hfw.cell (p := ⟨w.heap.size, 0, none⟩) (by show w.heap.size < _; omega) (by show ¬ (_ ≤ w.heap.size ∧ _); omega)).trans h3, (hfw.frozen (p := ⟨w.heap.size, 0, none⟩) (by show w.heap.size < _; omega) (by show ¬ (_ ≤ w.heap.size ∧ _); omega)).trans h4, h5.fr hfw (fun g hg => by rcases h6 g hg with h | h <;> omega) (h1.trans (hw.below (by omega) (by omega))), h6⟩)
        (fun c k A B hs hA hw => hs)
        ⟨Nat.le_refl _, hw1, fun _ _ => rfl, v, q1, q2, by simpa using O1, fun g hg => .inl (hvb g hg)⟩
        (fun p a' V => a' = { tmps := ((T.setIfInBounds 20 (.int .i64 p.1)).setIfInBounds 21 (.int .i64 p.2)).setIfInBounds 9 (.int .i64 p.2), defers := [] })
        (fun p a' _ A B row hs hg hr => hs) ?assign ?body ?done ?stop
      case assign =>
        intro l0 k p V K hx hz0 hI hK
        subst hT
        unfold encW
        simp
        gi_wp2
        exact hK _ _ SeqN.KeptN.refl hI rfl
      case body =>
        rintro l0 k p a' A hl ⟨r, hr⟩ hx hz0 ⟨i0, i1, i2, v, i3, i4, i5, i6⟩ rfl
        have hkW : k < W := by have := (List.getElem?_eq_some_iff.1 hx).1; rwa [wts_len] at this
        have hpx : p = ((k : Int), wt k (F (y : Int))) := by rw [wts_at W _ hkW] at hx; exact (Option.some.inj hx).symm
        have hsn := Lib.hid (take_snoc hx)
        subst hpx
        subst hT
        simp
        have hyW : y * W ≤ 4096 * 4096 := Nat.mul_le_mul (by omega) hW.2
        obtain ⟨Aw, cap, rfl, hn1, hn2, _, _⟩ := i5.read
        have hbx : (A.cell? ⟨w.heap.size, 0, none⟩).isSome = true := by rw [i3]; rfl
        have hwA : w.heap.size < A.heap.size := by omega
        generalize wt k (F (y : Int)) = wv at *
        gi_wp2_with (gi_at_builtin; refine Row.app_at rfl _ _ rfl Try.underlying40 info_i64 rfl (by decide) (by decide) rfl (i5.alloc _) _ (encI wv) rfl (newI A wv _) rfl (oneI wv) (by omega) ?_; intro v' w3 hO3 hg3 ho3; obtain ⟨e1, e2, e3, e4, e5, e6⟩ := Row.pushed_fr (b0 := w.heap.size) i5 (by omega) (Nat.le_refl _) hg3 hO3 hbx i4; have c3 := e5.trans i3; have f3 := e6.trans i4; clear e5 e6; obtain ⟨A', cap', rfl, _, _, _, _⟩ := hO3.read)
        have hnD : ∀ D ∈ Ds, (Value.slice Aw (y * W + k) cap).ownBlock ≠ some D := fun D hD e => by
          have h1 := (i2 D hD).trans (op1.open_ D hD)
          rcases i5.row.2 with ⟨h2, _⟩ | ⟨g', _, _, h2, _, h3, _⟩
          · rw [h2] at e; cases e
          · rw [h2] at e; cases e; rw [h1] at h3; cases h3
        have hbl' : Below w.heap.size A _ := e1.below (fun i hi => by
          rcases hi with h | h
          · omega
          · have := (i5.blk h).1; omega) (by omega)
        have hsA := e1.size
        refine ⟨⟨hbl', fun j h1 h2 h3 => e1.block j h3 (fun h => ?_), fun j hj => e1.block j ?_ (fun h => ?_)⟩, Nat.le_trans i0 hsA, i1.trans hbl', fun D hD => (e1.block D ?_ (fun h => ?_)).trans (i2 D hD), _, e3, e4, ?_, ?_⟩
        · rcases h with h | h
          · omega
          · rcases i6 j h with h4 | h4 <;> omega
        · obtain ⟨p, hp, rfl⟩ := List.mem_map.1 hj
          have := hol p.2 (.inr (.inr ⟨p, hp, rfl⟩)); omega
        · obtain ⟨p, hp, rfl⟩ := List.mem_map.1 hj
          have h2 := hol p.2 (.inr (.inr ⟨p, hp, rfl⟩))
          rcases h with h | h
          · omega
          · have := (i5.blk h).1; omega
        · have := hDlt D hD; omega
        · rcases h with h | h
          · have := hDs D hD; omega
          · exact hnD D hD h
        · rw [← List.map_take, hsn.out, List.map_append, List.flatMap_append, ← List.append_assoc]
          refine (?_ : Row.OwnR _ _ _ _ _ _ (y * W + k + 1) _)
          simpa using e2
        · intro g hg
          rcases ho3 with h | h
          · exact i6 g (h.symm.trans hg)
          · rw [h] at hg; cases hg; right; simp; omega
      case done =>
        rintro A hz ⟨i0, i1, i2, v, i3, i4, i5, i6⟩ hK
        subst hT
        gi_wp2
        refine ⟨⟨y + 1, V1.heap.size :: Ds, _, _, _, _, _, _, _, _, _, _, _, _, _, _, _, _, _, _, rfl, hlt, by omega, ?_, ?_, i1, v, i3, i4, ?_⟩, ?_⟩
        · exact op1.cons i2 hK (fun h => by have := hDlt _ h; omega)
        · intro D hD
          rcases List.mem_cons.1 hD with rfl | hD
          · omega
          · exact hDs D hD
        · rw [wts_len] at i5
          rw [allWts_snoc, Nat.succ_mul]
          have : (wts W (F (y : Int))).take W = wts W (F (y : Int)) := List.take_of_length_le (by rw [wts_len]; exact Nat.le_refl _)
          rw [this] at i5
          simpa [wts, Function.comp_def] using i5
        · simp [intOf]; omega
      case stop =>
        rintro c k V hk hz hF
        exact hF.elim
    · obtain rfl : y = h := by omega
      gi_wp2
      refine Marks.leaves Ds hop ?_
      have hcl := Marks.closed_below Ds (B := w.heap.size) (fun D hD => Nat.le_of_lt (hDs D hD)) (Nat.le_of_lt hsz)
      refine ⟨v, by simp [results, Try.f21, go_sem], _, rfl, ?_⟩
      refine (hO.fr (O := fun i => i ∈ Ds) ⟨hcl.os, hcl.tape, hcl.output, hcl.size, fun i hi hn => Marks.closed_other Ds hn⟩ (fun g hg hD => ?_) (hbl.trans hcl)).lower (by omega) (by omega)
      have h1 := hop.open_ g hD
      rcases hO.row.2 with ⟨h2, _⟩ | ⟨g', _, _, h2, _, h3, _⟩
      · rw [h2] at hg; cases hg
      · rw [h2] at hg; cases hg; rw [h1] at h3; cases h3
end Go.Proofs.Ytejcjonlnijbkaa.Buf

/- Rows of cells and of edges, to a reader. -/
namespace Go.Proofs.Ytejcjonlnijbkaa.Buf
open Go Go.RowKit Go.Shelf Range Go.Proofs.Ytejcjonlnijbkaa.PE Go.Proofs.YtejcjonlnijbkaaW.PrintWords Go.Proofs.YtejcjonlnijbkaaW.PrintLast Go.Proofs.YtejcjonlnijbkaaW.PrintMore
set_option maxRecDepth 100000
set_option linter.unusedVariables false
set_option linter.unusedSimpArgs false
/-- From some fuel on it is so. -/
def Ev {α : Type} (f : Nat → Option α) (r : α) : Prop := ∃ K, ∀ k, K ≤ k → f k = some r
section
variable {α β : Type} {f g : Nat → Option α} {r : α}
theorem Ev.step (he : ∀ k, f (k + 1) = g k) (h : Ev g r) : Ev f r := by
  obtain ⟨K, h⟩ := h
  exact ⟨K + 1, fun k hk => by obtain ⟨j, rfl⟩ : ∃ j, k = j + 1 := ⟨k - 1, by omega⟩; rw [he]; exact h j (by omega)⟩
theorem Ev.bind {a : β} {u : Nat → Option β} {v : β → Nat → Option α} (hu : Ev u a) (hv : Ev (v a) r) : Ev (fun k => (u k).bind fun t => v t k) r := by
  obtain ⟨K1, h1⟩ := hu
  obtain ⟨K2, h2⟩ := hv
  exact ⟨max K1 K2, fun k hk => by dsimp only; rw [h1 k (by omega)]; exact h2 k (by omega)⟩
theorem Ev.const : Ev (fun _ => some r) r := ⟨0, fun _ _ => rfl⟩
theorem Ev.congr (h : Ev g r) (e : ∀ k, f k = g k) : Ev f r := by
  obtain ⟨K, h⟩ := h
  exact ⟨K, fun k hk => (e k).trans (h k hk)⟩
end
theorem wnext {i : Nat} (h : i < 1000000000000) : wrap64 ((i : Int) + 1) = ((i + 1 : Nat) : Int) := by unfold wrap64; omega

/-- What an edge adds to row y. -/
def contr (W H : Int) (y : Int) (e : Eg) : List Cl := if taken e then (strs H e).flatMap (part W y) else []
theorem adde_eq (W H : Int) (F : Int → List Cl) (e : Eg) (y : Int) : adde W H F e y = F y ++ contr W H y e := by
  unfold adde contr; split
  · rfl
  · simp
theorem addl_eq (W H : Int) : ∀ (es : List Eg) (F : Int → List Cl) (y : Int), addl W H es F y = F y ++ es.flatMap (contr W H y)
  | [], F, y => by simp [addl]
  | e :: es, F, y => by
    show addl W H es (adde W H F e) y = _
    rw [addl_eq W H es, adde_eq]; simp

theorem same_l0 (xs : List Int) (hl : xs.length ≤ 100000000000) : ∀ (n i : Nat), i + n = xs.length → Ev (fun k => pointillistlaw17_same.l0 k xs xs (xs.length : Int) (i : Int)) true
  | 0, i, hi => by
    refine Ev.step (g := fun _ => some _) (fun k => ?_) Ev.const
    conv => lhs; unfold pointillistlaw17_same.l0
    rw [if_neg (by omega)]
  | n + 1, i, hi => by
    refine Ev.step (fun k => ?_) (same_l0 xs hl n (i + 1) (by omega))
    conv => lhs; unfold pointillistlaw17_same.l0
    rw [if_pos (by omega), if_pos (by omega), if_pos (by omega), if_pos (by omega), if_pos rfl, wnext (by omega)]
theorem same_f (xs : List Int) (hl : xs.length ≤ 100000000000) : Ev (fun k => pointillistlaw17_same.f k xs xs) true := by
  refine Ev.congr (same_l0 xs hl xs.length 0 (by omega)) fun k => ?_
  unfold pointillistlaw17_same.f
  rw [if_pos rfl]; rfl
/-- A pixel's weight, cell by cell. -/
def wsum (x : Int) : List Cl → Int
  | [] => 0
  | c :: L => (if c.f0 < x then c.f1.f0 * 131072 else if c.f0 = x then c.f1.f0 * 131072 - c.f1.f1 else 0) + wsum x L
theorem low_cons (x : Nat) (c : Cl) (L : List Cl) (hc : 0 ≤ c.f0) : low x (c :: L) = (if c.f0 < x then c.f1.f0 else 0) + low x L := by
  induction x with
  | zero => simp only [low]; rw [if_neg (by simpa using hc)]; rfl
  | succ x ih =>
    simp only [low, cov, ih]
    (repeat' split) <;> omega
theorem wsum_eq (x : Nat) : ∀ (L : List Cl), (∀ c ∈ L, 0 ≤ c.f0) → wsum x L = 131072 * low x L + (131072 * cov x L - are x L)
  | [], _ => by simp [wsum, low_nil, cov, are]
  | c :: L, h => by
    have ih := wsum_eq x L (fun c hc => h c (by simp [hc]))
    rw [low_cons x c L (h c (by simp))]
    simp only [wsum, cov, are, ih]
    by_cases h1 : c.f0 < (x : Int)
    · rw [if_pos h1, if_pos h1, if_neg (by omega), if_neg (by omega)]; omega
    · by_cases h2 : c.f0 = (x : Int)
      · rw [if_neg h1, if_pos h2, if_neg h1, if_pos h2, if_pos h2]; omega
      · rw [if_neg h1, if_neg h2, if_neg h1, if_neg h2, if_neg h2]; omega
theorem contr_in {W H y : Int} (hW : 1 ≤ W) (e : Eg) : ∀ c ∈ contr W H y e, 0 ≤ c.f0 ∧ c.f0 < W := fun c hc => by
  unfold contr at hc
  split at hc
  · obtain ⟨s, _, hs⟩ := List.mem_flatMap.1 hc
    unfold part at hs
    split at hs
    · exact cell_in hW hs
    · simp at hs
  · simp at hc
theorem addl_in {W H y : Int} (hW : 1 ≤ W) (es : List Eg) : ∀ c ∈ addl W H es nought y, 0 ≤ c.f0 ∧ c.f0 < W := fun c hc => by
  rw [addl_eq] at hc
  rcases List.mem_append.1 hc with hc | hc
  · simp [nought] at hc
  · obtain ⟨e, _, he⟩ := List.mem_flatMap.1 hc
    exact contr_in hW e c he
theorem ER.reads {O : Nat → Prop} {w : World} {A : Option Addr} {es : List Eg} (h : ER O w A es) (hl : es.length ≤ 9223372036854775807) : Kd.C k38 w A es.length es := by
  refine ⟨rfl, hl, fun h0 => ?_⟩
  obtain ⟨b, off, rfl, hb, _⟩ := h 0 h0
  refine ⟨_, rfl, fun j p hp => ?_⟩
  obtain ⟨hj, rfl⟩ := List.getElem?_eq_some_iff.1 hp
  obtain ⟨_, _, e, _, _, c0, c1, c2, c3⟩ := h j hj
  cases e
  refine ⟨_, rfl, k38_mk w _, fun i u hu => ?_⟩
  rw [Row.addr_add]
  match i, hu with
  | 0, hu => simp at hu; subst hu; exact c0
  | 1, hu => simp at hu; subst hu; exact c1
  | 2, hu => simp at hu; subst hu; exact c2
  | 3, hu => simp at hu; subst hu; exact c3
def toE (l : List Int) : Eg := ⟨⟨l.getD 0 0, l.getD 1 0⟩, ⟨l.getD 2 0, l.getD 3 0⟩⟩
theorem wf_InI {x : Int} (h : (Lit.int .i64 x).wf = true) : InI x := by
  simp [Lit.wf, IntKind.min, IntKind.max, IntKind.signed, IntKind.bits] at h
  unfold InI; omega
theorem er_of_rows {W : World} {A : Option Addr} {xs : List (List Int)} (h : Row.Rows W [.i64, .i64, .i64, .i64] A xs) : ER (fun _ => False) W A (xs.map toE) ∧ ∀ e ∈ xs.map toE, InIE e := by
  refine ⟨fun i hi => ?_, fun e he => ?_⟩
  · have hi' : i < xs.length := by simpa using hi
    obtain ⟨b, off, rfl, hb, c0⟩ := h.cell i 0 hi' (by simp)
    obtain ⟨_, _, e1, _, c1⟩ := h.cell i 1 hi' (by simp); cases e1
    obtain ⟨_, _, e2, _, c2⟩ := h.cell i 2 hi' (by simp); cases e2
    obtain ⟨_, _, e3, _, c3⟩ := h.cell i 3 hi' (by simp); cases e3
    refine ⟨b, off, rfl, hb, id, ?_, ?_, ?_, ?_⟩
    · simpa [hi', toE] using c0
    · simpa [hi', toE] using c1
    · simpa [hi', toE] using c2
    · simpa [hi', toE] using c3
  · obtain ⟨l, hl, rfl⟩ := List.mem_map.1 he
    obtain ⟨i, hi, rfl⟩ := List.getElem_of_mem hl
    have hg : xs.getD i [] = xs[i] := by simp [List.getD, hi]
    have w0 := h.wf i 0 hi (by simp)
    have w1 := h.wf i 1 hi (by simp)
    have w2 := h.wf i 2 hi (by simp)
    have w3 := h.wf i 3 hi (by simp)
    rw [hg] at w0 w1 w2 w3
    exact ⟨wf_InI w0, wf_InI w1, wf_InI w2, wf_InI w3⟩
theorem edges_in {W : World} {v : Value} {xs : List (List Int)} (f : Open.FlatRow W [.i64, .i64, .i64, .i64] v xs) : ∃ A cap es, v = .slice A es.length cap ∧ es.length ≤ cap ∧ cap ≤ maxLen ∧ ER (fun _ => False) W A es ∧ ∀ e ∈ es, InIE e := by
  obtain ⟨A, cap, rfl, h1, h2, hR⟩ := Row.Rows.of_flat f
  obtain ⟨h3, h4⟩ := er_of_rows hR
  exact ⟨A, cap, xs.map toE, by rw [List.length_map], by rw [List.length_map]; exact h1, h2, h3, h4⟩
theorem ints_own {w0 w : World} {v : Value} {n : Nat} {xs : List Int} (h : Row.OwnR 2 1 w0.heap.size w0 w v n (xs.flatMap encI)) (hn : n = xs.length) : ∃ A cap, v = .slice A xs.length cap ∧ xs.length ≤ cap ∧ Kd.C (Kd.int .i64) w A xs.length xs := by
  have hR : Kd.R (Kd.int .i64) 2 w w0.heap.size (fun _ => True) v xs := KdX.of_own (d := Kd.int .i64) (enc := encI) (fun w base ok x => rfl) (fun _ => rfl) h rfl hn
  exact Kd.R_reads hR
end Go.Proofs.Ytejcjonlnijbkaa.Buf

/- Sums of what edges add: in whatever order, and of two lists together. Plain. -/
namespace Go.Proofs.Ytejcjonlnijbkaa.Buf
open Go Go.RowKit Go.Proofs.Ytejcjonlnijbkaa.PE
set_option linter.unusedVariables false
set_option linter.unusedSimpArgs false

end Go.Proofs.Ytejcjonlnijbkaa.Buf

/- What an edge adds to one row: one strip's cells; what they weigh on the right of all of it. Plain. -/
namespace Go.Proofs.Ytejcjonlnijbkaa.Buf
open Go Go.RowKit Go.Proofs.Ytejcjonlnijbkaa.PE Go.Proofs.YtejcjonlnijbkaaW.PrintWords Go.Proofs.YtejcjonlnijbkaaW.PrintLast Go.Proofs.YtejcjonlnijbkaaW.PrintMore Go.Proofs.Ytejcjonlnijbkaa.Num
set_option maxRecDepth 100000
set_option linter.unusedVariables false
set_option linter.unusedSimpArgs false

end Go.Proofs.Ytejcjonlnijbkaa.Buf
