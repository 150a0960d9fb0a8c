/- Package snap's Edges, walked: slices.Collect over the iterator All. For all edges whose numbers may be asked about. -/
import Derived.Test.YtdepcbgjoegkkaaSnapA
import Derived.Test.YtdepcbgjoegkkaaSeqRow
namespace Go.Proofs.Ytdepcbgjoegkkaa.SnapE
open Go Go.RowKit Go.Shelf Range Go.Proofs.Ytdepcbgjoegkkaa.PSE Go.Proofs.YtdepcbgjoegkkaaW.PrintWords Go.Proofs.YtdepcbgjoegkkaaW.PrintLast Go.Proofs.Ytdepcbgjoegkkaa.Num
set_option maxRecDepth 100000
set_option linter.unusedVariables false
set_option linter.unusedSimpArgs false
attribute [local go_sem] Oper.semAt_some

def cE (e : S30) : List Value := [.int .i64 e.f0.f0, .int .i64 e.f0.f1, .int .i64 e.f1.f0, .int .i64 e.f1.f1]
def cellsE (xs : List S30) : List Value := xs.flatMap cE
theorem cellsE_snoc {xs : List S30} {k : Nat} {x : S30} (h : xs[k]? = some x) : cellsE (xs.take (k + 1)) = cellsE (xs.take k) ++ cE x := by
  obtain ⟨hk, rfl⟩ := List.getElem?_eq_some_iff.1 h
  unfold cellsE; rw [List.take_succ_eq_append_getElem hk, List.flatMap_append]; simp
theorem info_edge : (Try.prog.info? 30).map (fun i => (i.zero, i.size, i.bytes)) = some (some (.agg #[.int .i64 0, .int .i64 0, .int .i64 0, .int .i64 0]), 4, 32) := by kernel_rfl
theorem newE (w : World) (x : S30) (t : TypeId) : ∀ j u, (cE x)[j]? = some u → (w.alloc (.cells #[.int .i64 x.f0.f0, .int .i64 x.f0.f1, .int .i64 x.f1.f0, .int .i64 x.f1.f1] t)).cell? ⟨w.heap.size, j, none⟩ = some u := by
  intro j u hj
  match j, hj with
  | 0, hj => simp [cE] at hj ⊢; exact hj
  | 1, hj => simp [cE] at hj ⊢; exact hj
  | 2, hj => simp [cE] at hj ⊢; exact hj
  | 3, hj => simp [cE] at hj ⊢; exact hj
theorem oneE (x : S30) : ∀ u ∈ cE x, u.oneCell' = true := by
  intro u hu; simp [cE] at hu; rcases hu with rfl | rfl | rfl | rfl <;> rfl
theorem outs_len (es : List S30) : (outs es).length ≤ es.length := List.length_filterMap_le _ _

set_option maxHeartbeats 8000000 in
theorem appendseq_calls (Bn : Nat) (A : Option Addr) (es : List S30) (cap : Nat) (hIn : ∀ e ∈ es, In e) (hl : es.length ≤ 1000000) (w : World) (hb : Bn < w.heap.size) (hc : w.cell? ⟨Bn, 0, none⟩ = some (.slice A es.length cap)) (hE : ER w.heap.size w A es) :
    Calls Try.prog 20 #[.slice none 0 0, .func (.func 18) #[] #[.pointer (some ⟨Bn, 0, none⟩)]] w fun e w' => ∃ v, e = .returned v ∧ Row.OwnR 30 4 w.heap.size w w' v (outs es).length (cellsE (outs es)) := by
  have SG := Lib.hid (all_gives w.heap.size Bn A es cap hIn hl w hb hc hE (Nat.le_refl _))
  have hol : (outs es).length ≤ 1000000 := Nat.le_trans (outs_len es) hl
  generalize outs es = xs at *
  refine Seq.calls_of (n := 0) (callsIn_of_wp_marks Try.func20 rfl trivial ?_ rfl)
  simp only [Try.ntmps20, List.size_toArray, List.length_cons, List.length_nil, Nat.reduceAdd, Nat.reduceSub, Array.replicate_succ, Array.replicate_zero, List.push_toArray, List.append_toArray, List.nil_append, List.cons_append]
  gi_wp2
  obtain ⟨W0, hW0⟩ : ∃ W0, w.alloc (.cells #[.slice none 0 0] 32) = W0 := ⟨_, rfl⟩
  have HB : Below w.heap.size w W0 := by rw [← hW0]; (repeat' (first | (with_reducible exact Below.refl _ _) | (with_reducible refine Below.drew ?_) | (with_reducible refine below_drewN ?_ _) | ((with_reducible refine Below.setCell ?_ ?side_ _); case side_ => (first | (with_reducible exact Nat.le_refl _) | (with_reducible assumption) | omega | (simp; done) | (simp; omega))) | ((with_reducible refine Below.alloc ?_ ?side_ _); case side_ => (first | (with_reducible exact Nat.le_refl _) | (with_reducible assumption) | omega | (simp; done) | (simp; omega)))))
  have hsz : W0.heap.size = w.heap.size + 1 := by rw [← hW0]; simp
  have k2 : W0.cell? ⟨w.heap.size, 0, none⟩ = some (.slice none 0 0) := by subst hW0; go_simp
  have k3 : W0.frozen? ⟨w.heap.size, 0, none⟩ = false := by subst hW0; go_simp
  try rw [hW0]
  clear hW0
  refine Seq.range_ax (priv := false) (n₀ := w.heap.size) rfl (enters_of Try.func18 (by kernel_rfl) rfl) SG.out (by omega) (fun b hb => by simp at hb) HB (fun _ => rfl)
    (fun k W => ∃ v, (W.cell? ⟨w.heap.size, 0, none⟩ = some v ∧ W.frozen? ⟨w.heap.size, 0, none⟩ = false) ∧ Row.OwnR 30 4 W0.heap.size w W v k (cellsE (xs.take k)))
    (fun c k W => False)
    (Seq.Stab.own (fun k A B row hs hg hr => by
      obtain ⟨v, ⟨h3, h4⟩, h5⟩ := hs
      have hr' := fun r e => (hr r e).2
      exact ⟨v, ⟨cell_kept h3 hg hr', (frozen_kept h3 hg hr').trans h4⟩, h5.kept hg (by omega) hr⟩))
    (fun c => Seq.Stab.own (fun k A B row hs hg hr => hs.elim))
    ⟨_, ⟨k2, k3⟩, Row.OwnR.nil HB (by omega) (Nat.le_refl _)⟩
    (fun x a' W => ∃ g, a' = { tmps := (#[.slice none 0 0, .func (.func 18) #[] #[.pointer (some ⟨Bn, 0, none⟩)], .pointer (some ⟨w.heap.size, 0, none⟩), undef, .slice none 0 0, .pointer (some ⟨g, 0, none⟩), .func (.func 18) #[] #[.pointer (some ⟨Bn, 0, none⟩)], .agg #[.int .i64 x.f0.f0, .int .i64 x.f0.f1, .int .i64 x.f1.f0, .int .i64 x.f1.f1], undef, undef, undef, undef, undef] : Array Value), defers := [] } ∧ W0.heap.size ≤ g ∧ g < W.heap.size ∧ ∀ j u, (cE x)[j]? = some u → W.cell? ⟨g, j, none⟩ = some u)
    (fun x a' _ A B row hs hg hr => by
      obtain ⟨g, h1, h2, h3, h4⟩ := hs
      have hr' := fun r e => (hr r e).2
      exact ⟨g, h1, h2, Nat.lt_of_lt_of_le h3 hg.size, fun j u hj => cell_kept (h4 j u hj) hg hr'⟩) ?assign ?body ?done ?stop
  case assign =>
    intro l k x W K hx ⟨v, ⟨c1, f1⟩, hO⟩ hK
    unfold encE
    simp
    gi_wp2
    have hhi := hO.hi
    refine hK _ _ (kf_alloc (KeepsFrom.refl _ _)) (Seq.Kept.of ((Below.refl _ _).alloc (by omega) _) (fun b hb => by simp at hb)) ⟨v, ⟨by rw [World.cell?_of_block (w := W) (a := ⟨w.heap.size, 0, none⟩) (Below.heap_alloc W _ _ (by show w.heap.size < _; omega))]; exact c1, by rw [World.frozen?_of_block (w := W) (a := ⟨w.heap.size, 0, none⟩) (Below.heap_alloc W _ _ (by show w.heap.size < _; omega))]; exact f1⟩, hO.alloc _⟩ ⟨W.heap.size, rfl, hhi, by simp, newE W x _⟩
  case body =>
    rintro l k x a' W hl ⟨r, hr⟩ hx ⟨v, ⟨c1, f1⟩, hO⟩ ⟨g, rfl, hg1, hg2, hgc⟩
    obtain ⟨A1, cap1, rfl, h1, h2, _, _⟩ := hO.read
    have hs := Lib.hid (cellsE_snoc hx)
    have hkl := (List.getElem?_eq_some_iff.1 hx).1
    have c2 := hgc 0 _ rfl
    have c3 := hgc 1 _ rfl
    have c4 := hgc 2 _ rfl
    have c5 := hgc 3 _ rfl
    have hWs := hO.hi
    have hhi : w.heap.size < W.heap.size := by omega
    have hbx : (W.cell? ⟨w.heap.size, 0, none⟩).isSome = true := by rw [c1]; rfl
    clear hx hgc
    gi_wp2_with (gi_at_builtin; refine Row.app_in rfl _ _ rfl Try.underlying32 info_edge rfl (by decide) (by decide) rfl (hO.alloc _) _ (cE x) rfl (newE _ _ _) rfl (oneE x) (by omega) ?_; intro v' w3 hO3 hg3; obtain ⟨p1, p2, p3, p4, p5, p6, p7, p8⟩ := Row.pushed (Bk := W0.heap.size) (n₀ := w.heap.size) hO (by omega) (by omega) (Nat.le_refl _) (by omega) hg3 hO3 hbx f1; have c3 := p7.trans c1; have f3 := p8.trans f1; clear p7 p8; obtain ⟨A', cap', rfl, _, _, _, _⟩ := hO3.read)

    exact ⟨p1, Seq.Kept.of p2 (fun b hb => by simp at hb), _, ⟨p5, p6⟩, by rw [hs.out]; exact p4⟩
  case done =>
    rintro D W hD ⟨v, ⟨c2, f2⟩, hO⟩ hK
    have hO2 := (hO.put (.deferred none) (by omega) hK rfl).lower (B' := w.heap.size) (Nat.le_refl _) (by omega)
    obtain ⟨A, cap, rfl, _, _, _, _⟩ := hO.read
    rw [List.take_length] at hO2
    gi_wp2
    refine ⟨by simp, .inl ⟨_, _, rfl, run_takeDeferred hK, ?_⟩⟩
    exact ⟨.slice A xs.length cap, by simp [results, Try.f20, go_sem], _, rfl, hO2⟩
  case stop =>
    rintro D c k W hD hk h hK
    exact h.elim
end Go.Proofs.Ytdepcbgjoegkkaa.SnapE
