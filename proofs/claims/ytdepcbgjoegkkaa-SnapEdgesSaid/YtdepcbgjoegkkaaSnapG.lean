/- The statement SnapEdges, walked, where the edges may be asked about. -/
import Derived.Test.YtdepcbgjoegkkaaSnapF
import Derived.OwnWalkIn
import Derived.Deep.DrawnRows
import Derived.Deep.RegionWith
import Derived.Deep.RegionHeld3
namespace Go.Proofs.Ytdepcbgjoegkkaa.SnapE
open Go Go.RowKit Go.Shelf Range Go.Proofs.Ytdepcbgjoegkkaa.PSE Go.Proofs.YtdepcbgjoegkkaaW.PrintWords Go.Proofs.YtdepcbgjoegkkaaW.PrintLast Go.Proofs.Ytdepcbgjoegkkaa.Num
set_option maxRecDepth 100000
set_option linter.unusedVariables false
set_option linter.unusedSimpArgs false
attribute [local go_sem] Oper.semAt_some
attribute [local go_sem ↓] Go.wp_at_zero Go.wp_at_succ

theorem ER.of_R {W : World} {base : Nat} {ok : Nat → Prop} {v : Value} {xs : List S30} (h : Kd.R k30 30 W base ok v xs) : ∃ A cap, v = .slice A xs.length cap ∧ xs.length ≤ cap ∧ ER W.heap.size W A xs := by
  obtain ⟨A, c, rfl, h1, hC⟩ := Kd.R_reads h
  refine ⟨A, c, rfl, h1, ER.of_reads hC _ fun ad ha h0 => ?_⟩
  obtain ⟨_, inner, ho, hr⟩ := h
  have hlt := ho.lt
  rcases ho.2 with ⟨hv, _⟩ | ⟨g, cap, cur, hv, _⟩
  · subst ha; cases hv
  · subst ha; cases hv
    exact ⟨(hlt g rfl).2, _, _, rfl⟩

theorem eqPoint (d : Nat) (w : World) (a b : Int) : (Op.equalIn (d + 2) 26 (.agg #[.int .i64 a, .int .i64 b]) (.agg #[.int .i64 a, .int .i64 b])).run Try.prog w = .ok true w := by
  refine eqA_of Try.underlying26 (by kernel_rfl) ?_
  refine eqf_end (by rfl) (by go_simp; rfl) (by go_simp; rfl) (by go_simp; done) ?_
  refine eqf_end (by rfl) (by go_simp; rfl) (by go_simp; rfl) (by go_simp; done) eqf_nil
theorem eqEdge (d : Nat) (w : World) (a b c e : Int) : (Op.equalIn (d + 3) 30 (.agg #[.int .i64 a, .int .i64 b, .int .i64 c, .int .i64 e]) (.agg #[.int .i64 a, .int .i64 b, .int .i64 c, .int .i64 e])).run Try.prog w = .ok true w := by
  refine eqA_of Try.underlying30 (by kernel_rfl) ?_
  refine eqf_end (by rfl) (by first | (go_simp; done) | (go_simp; rfl)) (by first | (go_simp; done) | (go_simp; rfl)) (eqPoint d w a b) ?_
  refine eqf_end (by rfl) (by first | (go_simp; done) | (go_simp; rfl)) (by first | (go_simp; done) | (go_simp; rfl)) (eqPoint d w c e) eqf_nil
attribute [local go_sem high] eqEdge
theorem ER.mono {B B' : Nat} {w : World} {A : Option Addr} {es : List S30} (h : ER B w A es) (hB : B ≤ B') : ER B' w A es := fun i hi => by
  obtain ⟨b, off, e, hl, c⟩ := h i hi
  exact ⟨b, off, e, Nat.lt_of_lt_of_le hl hB, c⟩
theorem ER.drew {B : Nat} {w : World} {A : Option Addr} {es : List S30} (h : ER B w A es) : ER B w.drew A es := h.below ((Below.refl _ _).drew)
/-- The frame, named. -/
theorem with_frame {F : Fence} {n : Nat} {P : Program} {c : Code} {Q : Exit → Act → World → Prop} {T : Array Value} {d : List Deferred} {w : World} (h : ∀ T', T' = T → c.wpIn F n P Q { tmps := T', defers := d } w) : c.wpIn F n P Q { tmps := T, defers := d } w := h T rfl

/-- A normal end with these temporaries, in a world of which S is true. -/
def PostOf (A : Act) (S : World → Prop) : Exit → Act → World → Prop := fun ex ac u => match ex with
  | .normal => ac = A ∧ S u
  | _ => False
theorem cut_in {F : Fence} {n : Nat} {P : Program} {c : Code} {Q : Exit → Act → World → Prop} {act : Act} {u : World} {A : Act} {S : World → Prop} (h : c.wpIn F n P (PostOf A S) act u) (k : ∀ u1, S u1 → Q Exit.normal A u1) : c.wpIn F n P Q act u :=
  Code.wpIn_mono (fun ex ac u1 e => by
    cases ex <;> first | exact (e : False).elim | (obtain ⟨rfl, e⟩ := (e : ac = A ∧ S u1); exact k u1 e)) h

/-- A normal end with these deferred calls, the result's pointer as it was, in a world of which S is true. -/
def PostD (d : List Deferred) (p : Value) (S : World → Prop) : Exit → Act → World → Prop := fun ex ac u => match ex with
  | .normal => ac.defers = d ∧ ac.tmps[4]? = some p ∧ S u
  | _ => False
theorem cut_d {P : Program} {c : Code} {Q : Exit → Act → World → Prop} {act : Act} {u : World} {d : List Deferred} {p : Value} {S : World → Prop} (h : Code.wp P c (PostD d p S) act u) (k : ∀ T u1, T[4]? = some p → S u1 → Q Exit.normal { tmps := T, defers := d } u1) : Code.wp P c Q act u :=
  Code.wp_mono (fun ex ac u1 e => by
    cases ex <;> first | exact (e : False).elim | (obtain ⟨T, d'⟩ := ac; obtain ⟨rfl, e1, e⟩ := (e : d' = d ∧ T[4]? = some p ∧ S u1); exact k T u1 e1 e)) h
/-- What is known behind the last region. -/
def Fin (w : World) (D : Nat) (u : World) : Prop := u.cell? ⟨w.heap.size + 1, 0, none⟩ = some (.bool true) ∧ u.heap[D]? = some (.deferred (some [])) ∧ Below w.heap.size w u
theorem Fin.of {w W w5 : World} {D : Nat} (n : Nat) (i9 : Below w.heap.size w W) (hb5 : Below W.drew.heap.size W.drew w5) (hK : W.heap[D]? = some (.deferred (some []))) (hD : D ≠ w.heap.size + 1) (l1 : w5.cell? ⟨w.heap.size + 1, 0, none⟩ = some (.bool false)) : Fin w D ((w5.drewN n).setCell ⟨w.heap.size + 1, 0, none⟩ (.bool true)) := by
  refine ⟨World.cell?_setCell_same' _ _ _ ?_, (Below.heap_setCell _ _ _ _ hD).trans ((hb5.block D (Array.getElem?_eq_some_iff.1 hK).1).trans hK), ?_⟩
  · show (w5.cell? _).isSome = true
    rw [l1]; rfl
  · have h2 := i9.drew.trans (hb5.mono i9.size)
    exact (h2.trans ((drewN_below w5 n).mono h2.size)).setCell (by show w.heap.size ≤ w.heap.size + 1; omega) _

theorem sg_keep {W W1 : World} {a b : Nat} {v1 v2 v3 : Value} (h : W.cell? ⟨a, 0, none⟩ = some (v1) ∧ W.cell? ⟨b, 0, none⟩ = some (v2) ∧ W.cell? ⟨b + 1, 0, none⟩ = some (v3) ∧ b + 1 < W.heap.size ∧ a + 1 < b) (hb : Below W.heap.size W W1) : W1.cell? ⟨a, 0, none⟩ = some (v1) ∧ W1.cell? ⟨b, 0, none⟩ = some (v2) ∧ W1.cell? ⟨b + 1, 0, none⟩ = some (v3) ∧ b + 1 < W1.heap.size ∧ a + 1 < b :=
  ⟨(hb.cell (p := ⟨a, 0, none⟩) (by show a < _; omega)).trans h.1, (hb.cell (p := ⟨b, 0, none⟩) (by show b < _; omega)).trans h.2.1, (hb.cell (p := ⟨b + 1, 0, none⟩) h.2.2.2.1).trans h.2.2.1, Nat.lt_of_lt_of_le h.2.2.2.1 hb.size, h.2.2.2.2⟩
theorem sg_drewN {W : World} {a b : Nat} {v1 v2 v3 : Value} (h : W.cell? ⟨a, 0, none⟩ = some (v1) ∧ W.cell? ⟨b, 0, none⟩ = some (v2) ∧ W.cell? ⟨b + 1, 0, none⟩ = some (v3) ∧ b + 1 < W.heap.size ∧ a + 1 < b) (n : Nat) : (W.drewN n).cell? ⟨a, 0, none⟩ = some (v1) ∧ (W.drewN n).cell? ⟨b, 0, none⟩ = some (v2) ∧ (W.drewN n).cell? ⟨b + 1, 0, none⟩ = some (v3) ∧ b + 1 < (W.drewN n).heap.size ∧ a + 1 < b := ⟨h.1, h.2.1, h.2.2.1, h.2.2.2.1, h.2.2.2.2⟩
theorem sg_set {W : World} {a b : Nat} {v1 v2 v3 : Value} (h : W.cell? ⟨a, 0, none⟩ = some (v1) ∧ W.cell? ⟨b, 0, none⟩ = some (v2) ∧ W.cell? ⟨b + 1, 0, none⟩ = some (v3) ∧ b + 1 < W.heap.size ∧ a + 1 < b) (v : Value) : (W.setCell ⟨a + 1, 0, none⟩ v).cell? ⟨a, 0, none⟩ = some (v1) ∧ (W.setCell ⟨a + 1, 0, none⟩ v).cell? ⟨b, 0, none⟩ = some (v2) ∧ (W.setCell ⟨a + 1, 0, none⟩ v).cell? ⟨b + 1, 0, none⟩ = some (v3) ∧ b + 1 < (W.setCell ⟨a + 1, 0, none⟩ v).heap.size ∧ a + 1 < b := by
  have h5 := h.2.2.2.2
  exact ⟨(World.cell?_setCell_other _ _ _ _ (by intro e; injection e with e1; omega)).trans h.1, (World.cell?_setCell_other _ _ _ _ (by intro e; injection e with e1; omega)).trans h.2.1, (World.cell?_setCell_other _ _ _ _ (by intro e; injection e with e1; omega)).trans h.2.2.1, by simpa using h.2.2.2.1, h5⟩
theorem small_one_in (k : Nat) (es : List S30) (i a b c d : Int) (ha : In62 a) (hb : In62 b) (hc : In62 c) (hd : In62 d) : pointillistref14_Small.l1 (k + 5) es 4611686018427387904 i [a, b, c, d] 4 0 = pointillistref14_Small.l0 k es 4611686018427387904 (wrap64 (i + 1)) := by
  unfold In62 at *
  have a1 : ¬ a > 4611686018427387904 := by omega
  have a2 : ¬ a < -4611686018427387904 := by omega
  have b1 : ¬ b > 4611686018427387904 := by omega
  have b2 : ¬ b < -4611686018427387904 := by omega
  have c1 : ¬ c > 4611686018427387904 := by omega
  have c2 : ¬ c < -4611686018427387904 := by omega
  have d1 : ¬ d > 4611686018427387904 := by omega
  have d2 : ¬ d < -4611686018427387904 := by omega
  clear ha hb hc hd
  simp [pointillistref14_Small.l1, rd, w1, w2, w3, w4, wm, a1, a2, b1, b2, c1, c2, d1, d2]
theorem small_in_l (es : List S30) (hIn : ∀ e ∈ es, In e) (hl : es.length ≤ 1000000) : ∀ (n i : Nat), i + n = es.length → pointillistref14_Small.l0 (6 * n + 1) es 4611686018427387904 (i : Int) = some true
  | 0, i, h => by
    unfold pointillistref14_Small.l0
    rw [if_neg (by omega)]
  | n + 1, i, h => by
    have hi : i < es.length := by omega
    obtain ⟨i0, i1, i2, i3⟩ := hIn es[i] (List.getElem_mem hi)
    rw [show 6 * (n + 1) + 1 = (6 * n + 1 + 5) + 1 by omega]
    unfold pointillistref14_Small.l0
    rw [if_pos (by omega), if_pos (by omega), rd_at hi]
    simp only [Option.bind_some]
    rw [show (([es[i].f0.f0, es[i].f0.f1, es[i].f1.f0, es[i].f1.f1] : List Int).length : Int) = 4 from rfl, small_one_in _ _ _ _ _ _ _ i0 i1 i2 i3, wnext (by omega)]
    exact small_in_l es hIn hl n (i + 1) (by omega)
theorem small_in (es : List S30) (hIn : ∀ e ∈ es, In e) (hl : es.length ≤ 1000000) : pointillistref14_Small.f (6 * es.length + 1) es 4611686018427387904 = some true := by
  have := small_in_l es hIn hl es.length 0 (by omega)
  simpa [pointillistref14_Small.f] using this

theorem wrapm {m : Nat} (hm : m ≤ 255) : IntKind.i64.wrap (m : Int) = (m : Int) := (IntKind.wrap_i64 _).trans (by omega)
theorem wrapm' {m : Nat} (hm : m ≤ 255) : wrap64 (m : Int) = (m : Int) := by unfold wrap64; omega
theorem minm {n m : Nat} (h : n ≤ m) : (if n < m then (n : Int) else (m : Int)) = (n : Int) := by split <;> omega

set_option maxHeartbeats 16000000 in
theorem snapedges_in (A : Option Addr) (es : List S30) (cap : Nat) (m : Nat) (hm : m ≤ 255) (hc : es.length ≤ cap) (hcap : cap ≤ maxLen) (w : World) (hE : ER w.heap.size w A es) (hl : es.length ≤ 100) (hIn : ∀ e ∈ es, In e) :
    Calls Try.prog 6 #[.slice A es.length cap, .int .u8 (m : Int)] w fun e w' => e = .returned (.bool true) ∧ Below w.heap.size w w' := by
  have WK := Lib.hid (fun w => pointillistlaw14_wakes.calls true w wakes)
  have SM := Lib.hid (fun w h => pointillistref14_Small.calls _ A cap es 4611686018427387904 true w h hc (small_in es hIn (by omega)))
  have RE := Lib.hid (fun w h => pointillistref14_Edges.calls _ A cap es (outs es) w h hc (edges_f es hIn (by omega)))
  have SE := Lib.hid (fun w h => edges_calls A es cap hIn (by omega) w h)
  have AL := Lib.hid (fun w => all_calls A es.length cap w)
  have SA := Lib.hid (fun (v : Option Addr × Option Addr × Nat × Nat) w h0 hc0 h1 hc1 => pointillistref12_Same.calls _ v.1 v.2.2.1 (outs es) v.2.1 v.2.2.2 (outs es) true w h0 hc0 h1 hc1 (same_f (outs es) (Nat.le_trans (outs_len es) (by omega))))
  have AG := Lib.hid (fun n₀ Bn => all_gives n₀ Bn A es cap hIn (by omega))
  have NF := fun c => neq_func_nil (P := Try.prog) Try.underlying38 (.func 18) #[] c
  have hol : (outs es).length ≤ 100 := Nat.le_trans (outs_len es) hl
  have HE := Lib.hid hE
  clear hIn hE
  generalize hxs : outs es = xs at *
  refine Seq.calls_of (n := 0) (callsIn_of_wp_marks Try.func6 rfl trivial ?_ rfl)
  simp only [Try.ntmps6, List.size_toArray, List.length_cons, List.length_nil, Nat.reduceAdd, Nat.reduceSub, Array.replicate_succ, Array.replicate_zero, List.push_toArray, List.append_toArray, List.nil_append, List.cons_append]
  have HB0 : ∀ o1 o2 nd, Below w.heap.size w (((w.alloc o1).alloc o2).drewN nd) := fun o1 o2 nd => (((Below.refl w.heap.size w).alloc (Nat.le_refl _) _).alloc (by simp) _).trans ((drewN_below _ nd).mono (by simp; omega))
  gi_wp2_with (first
    | (gi_at_call 7; refine (Seq.of_calls (WK.out _)).mono ?_; rintro e w1 ⟨rfl, ⟨nd, rfl⟩⟩)
    | (gi_at_call 11; refine (Seq.of_calls (SM.out _ ((HE.out.below (HB0 _ _ nd)).reads (by omega)))).mono ?_; rintro e w2 ⟨rfl, hb2⟩; have HB2 := (HB0 _ _ nd).trans (hb2.mono (by simp; omega)))
    | (gi_at_call 14; refine (Seq.of_calls (RE.out _ ((HE.out.below HB2).reads (by omega)))).mono ?_; rintro e w3 ⟨v0, rfl, hR3, hb3⟩; obtain ⟨Aw, cw, rfl, hcw, hEw⟩ := ER.of_R hR3; have HB3 := HB2.trans (hb3.mono HB2.size))
    | (gi_at_call 15; refine (Seq.of_calls (AL.out _)).mono ?_; rintro e w4 ⟨rfl, rfl⟩))
  have z2 := hb2.size
  have z3 := hb3.size
  simp at z2
  have s0 := (hb3.cell (p := ⟨w.heap.size, 0, none⟩) (by simp; omega)).trans ((hb2.cell (p := ⟨w.heap.size, 0, none⟩) (by simp; omega)).trans (show _ = some (Value.int .u8 (m : Int)) by simp [go_sem]))
  have r0 := (hb3.cell (p := ⟨w.heap.size + 1, 0, none⟩) (by simp; omega)).trans ((hb2.cell (p := ⟨w.heap.size + 1, 0, none⟩) (by simp)).trans (show _ = some (Value.bool false) by simp [go_sem]))
  have r1 := (hb3.frozen (p := ⟨w.heap.size + 1, 0, none⟩) (by simp; omega)).trans ((hb2.frozen (p := ⟨w.heap.size + 1, 0, none⟩) (by simp)).trans (show _ = false by simp [go_sem]))
  obtain ⟨W0, hW0⟩ : ∃ W0, ((w3.alloc (.cells #[.slice Aw xs.length cw] 32)).alloc (.cells #[.int .i64 0] 3)).alloc (.cells #[.slice A es.length cap] 32) = W0 := ⟨_, rfl⟩
  have hbW : Below w3.heap.size w3 W0 := by rw [← hW0]; exact (((Below.refl _ _).alloc (Nat.le_refl _) _).alloc (by simp) _).alloc (by simp; omega) _
  have HBW := HB3.trans (hbW.mono HB3.size)
  have hsz : W0.heap.size = w3.heap.size + 3 := by rw [← hW0]; simp
  have t0 := (hbW.cell (p := ⟨w.heap.size, 0, none⟩) (by simp; omega)).trans s0
  have t1 := (hbW.cell (p := ⟨w.heap.size + 1, 0, none⟩) (by simp; omega)).trans r0
  have t2 := (hbW.frozen (p := ⟨w.heap.size + 1, 0, none⟩) (by simp; omega)).trans r1
  have t3 : W0.cell? ⟨w3.heap.size, 0, none⟩ = some (.slice Aw xs.length cw) := by subst hW0; go_simp
  have t4 : W0.cell? ⟨w3.heap.size + 1, 0, none⟩ = some (.int .i64 0) := by subst hW0; go_simp
  have t5 : W0.frozen? ⟨w3.heap.size + 1, 0, none⟩ = false := by subst hW0; go_simp
  have t6 : W0.cell? ⟨w3.heap.size + 1 + 1, 0, none⟩ = some (.slice A es.length cap) := by subst hW0; go_simp
  rw [hW0]
  clear hW0 s0 r0 r1
  refine with_frame fun T hT => ?_
  refine Seq.range_ax (priv := false) (n₀ := w.heap.size) (by rw [hT]; rfl) (enters_of Try.func18 (by kernel_rfl) rfl) (AG.out w.heap.size (w3.heap.size + 1 + 1) W0 (by omega) t6 (HE.out.below HBW) (by omega)) (by omega) (fun b hb => by simp at hb) (Below.refl _ _) (fun _ => rfl)
    (fun k W => ((k ≤ m ∧ W0.heap.size ≤ W.heap.size ∧ W.cell? ⟨w.heap.size, 0, none⟩ = some (.int .u8 (m : Int))) ∧ (W.cell? ⟨w.heap.size + 1, 0, none⟩ = some (.bool false) ∧ W.frozen? ⟨w.heap.size + 1, 0, none⟩ = false) ∧ W.cell? ⟨w3.heap.size, 0, none⟩ = some (.slice Aw xs.length cw) ∧ (W.cell? ⟨w3.heap.size + 1, 0, none⟩ = some (.int .i64 (k : Int)) ∧ W.frozen? ⟨w3.heap.size + 1, 0, none⟩ = false) ∧ ER w3.heap.size W Aw xs ∧ Below w.heap.size w W))
    (fun c k W => (c = .exit 0 ∧ k = m + 1) ∧ ((m ≤ xs.length ∧ W0.heap.size ≤ W.heap.size ∧ W.cell? ⟨w.heap.size, 0, none⟩ = some (.int .u8 (m : Int))) ∧ (W.cell? ⟨w.heap.size + 1, 0, none⟩ = some (.bool false) ∧ W.frozen? ⟨w.heap.size + 1, 0, none⟩ = false) ∧ W.cell? ⟨w3.heap.size, 0, none⟩ = some (.slice Aw xs.length cw) ∧ (W.cell? ⟨w3.heap.size + 1, 0, none⟩ = some (.int .i64 (m : Int)) ∧ W.frozen? ⟨w3.heap.size + 1, 0, none⟩ = false) ∧ ER w3.heap.size W Aw xs ∧ Below w.heap.size w W))
    (Seq.Stab.own (fun k A B row hs hg hr => by
      obtain ⟨⟨h1, hz, h2⟩, ⟨h3, h4⟩, h5, ⟨h6, h7⟩, h8, h9⟩ := hs
      have hr' := fun r e => (hr r e).2
      exact ⟨⟨h1, Nat.le_trans hz hg.size, cell_kept h2 hg hr'⟩, ⟨cell_kept h3 hg hr', (frozen_kept h3 hg hr').trans h4⟩, cell_kept h5 hg hr', ⟨cell_kept h6 hg hr', (frozen_kept h6 hg hr').trans h7⟩, (fun i hi => by
        obtain ⟨b, off, e, hb, c0, c1, c2, c3⟩ := h8 i hi
        exact ⟨b, off, e, hb, cell_kept c0 hg hr', cell_kept c1 hg hr', cell_kept c2 hg hr', cell_kept c3 hg hr'⟩), h9.grown hg h9.size (fun k e => by have := (hr k e).1; omega)⟩))
    (fun c => Seq.Stab.own (fun k A B row hs hg hr => by
      obtain ⟨hck, hs⟩ := hs
      refine ⟨hck, ?_⟩
      obtain ⟨⟨h1, hz, h2⟩, ⟨h3, h4⟩, h5, ⟨h6, h7⟩, h8, h9⟩ := hs
      have hr' := fun r e => (hr r e).2
      exact ⟨⟨h1, Nat.le_trans hz hg.size, cell_kept h2 hg hr'⟩, ⟨cell_kept h3 hg hr', (frozen_kept h3 hg hr').trans h4⟩, cell_kept h5 hg hr', ⟨cell_kept h6 hg hr', (frozen_kept h6 hg hr').trans h7⟩, (fun i hi => by
        obtain ⟨b, off, e, hb, c0, c1, c2, c3⟩ := h8 i hi
        exact ⟨b, off, e, hb, cell_kept c0 hg hr', cell_kept c1 hg hr', cell_kept c2 hg hr', cell_kept c3 hg hr'⟩), h9.grown hg h9.size (fun k e => by have := (hr k e).1; omega)⟩))
    ⟨⟨Nat.zero_le _, Nat.le_refl _, t0⟩, ⟨t1, t2⟩, t3, ⟨t4, t5⟩, hEw.below hbW, HBW⟩
    (fun x a' W => ∃ g, a' = { tmps := (T.setIfInBounds 26 (.agg #[.int .i64 x.f0.f0, .int .i64 x.f0.f1, .int .i64 x.f1.f0, .int .i64 x.f1.f1])).setIfInBounds 8 (.pointer (some ⟨g, 0, none⟩)), defers := [] } ∧ W0.heap.size ≤ g ∧ g < W.heap.size ∧ ∀ j u, (cE x)[j]? = some u → W.cell? ⟨g, j, none⟩ = some u)
    (fun x a' _ A B row hs hg hr => by
      obtain ⟨g, h1, h2, h3, h4⟩ := hs
      have hr' := fun r e => (hr r e).2
      exact ⟨g, h1, h2, Nat.lt_of_lt_of_le h3 hg.size, fun j u hj => cell_kept (h4 j u hj) hg hr'⟩) ?assign ?body ?done ?stop
  case assign =>
    intro l k x W K hx hI hK
    obtain ⟨⟨i1, iz, i2⟩, ⟨i3, i4⟩, i5, ⟨i6, i7⟩, i8, i9⟩ := hI
    subst hT
    unfold encE
    simp
    gi_wp2
    have hAl := fun o => (Below.refl W.heap.size W).alloc (Nat.le_refl _) o
    refine hK _ _ (kf_alloc (KeepsFrom.refl _ _)) (Seq.Kept.of ((Below.refl _ _).alloc (by omega) _) (fun b hb => by simp at hb))
      ⟨⟨i1, by simp; omega, ((hAl _).cell (p := ⟨w.heap.size, 0, none⟩) (by simp; omega)).trans i2⟩, ⟨((hAl _).cell (p := ⟨w.heap.size + 1, 0, none⟩) (by simp; omega)).trans i3, ((hAl _).frozen (p := ⟨w.heap.size + 1, 0, none⟩) (by simp; omega)).trans i4⟩, ((hAl _).cell (p := ⟨w3.heap.size, 0, none⟩) (by simp; omega)).trans i5, ⟨((hAl _).cell (p := ⟨w3.heap.size + 1, 0, none⟩) (by simp; omega)).trans i6, ((hAl _).frozen (p := ⟨w3.heap.size + 1, 0, none⟩) (by simp; omega)).trans i7⟩, i8.below ((hAl _).mono (by omega)), i9.trans ((hAl _).mono i9.size)⟩
      ⟨W.heap.size, rfl, iz, by simp, newE W x _⟩
  case body =>
    rintro l k x a' W hl ⟨r, hr⟩ hx ⟨⟨i1, iz, i2⟩, ⟨i3, i4⟩, i5, ⟨i6, i7⟩, i8, i9⟩ ⟨g, rfl, hg1, hg2, hgc⟩
    have hkl := (List.getElem?_eq_some_iff.1 hx).1
    have hxe := (List.getElem?_eq_some_iff.1 hx).2
    obtain ⟨b, off, rfl, hb, d0, d1, d2, d3⟩ := i8 k hkl
    rw [hxe] at d0 d1 d2 d3
    have c2 := hgc 0 _ rfl
    have c3 := hgc 1 _ rfl
    have c4 := hgc 2 _ rfl
    have c5 := hgc 3 _ rfl
    have I8 := Lib.hid i8
    clear hx hgc hxe i8
    subst hT
    simp
    by_cases hlt : k < m
    · have hge : ¬ (m : Int) ≤ (k : Int) := by omega
      gi_wp2
      have hge2 : ¬ (xs.length : Int) ≤ (k : Int) := by omega
      apply cut_in (S := fun u => u = W.drew)
      · gi_region
        all_goals exact ⟨rfl, rfl⟩
      rintro u1 rfl
      have hB1 : ∀ B, B ≤ w3.heap.size + 1 → Below B W ((W.setCell ⟨w3.heap.size + 1, 0, none⟩ (.int .i64 ((k : Int) + 1))).drew) := fun B hB => ((Below.refl B W).setCell hB _).drew
      gi_wp2
      have e1 : ((k + 1 : Nat) : Int) = (k : Int) + 1 := by omega
      refine ⟨kf_drew (kf_set (KeepsFrom.refl _ _) _ _), Seq.Kept.of (hB1 _ (by omega)) (fun b hb => by simp at hb), ⟨⟨by omega, ?_, ?_⟩, ⟨?_, ?_⟩, ?_, ⟨?_, ?_⟩, I8.out.below (hB1 _ (by omega)), i9.trans (hB1 _ (by omega))⟩⟩
      all_goals first | (go_simp; done) | (rw [e1]; go_simp; done) | (show _ ≤ (World.setCell _ _ _).heap.size; simpa using iz) | (show _ ≤ (World.setCell _ _ _).heap.size; have iz2 := iz; rw [hsz] at iz2; simpa using iz2) | (simp; omega)
    · obtain rfl : k = m := by omega
      gi_wp2
      exact ⟨KeepsFrom.refl _ _, ⟨rfl, rfl⟩, ⟨by omega, iz, i2⟩, ⟨i3, i4⟩, i5, ⟨i6, i7⟩, I8.out, i9⟩
  case done =>
    rintro D W hD ⟨⟨i1, iz, i2⟩, ⟨i3, i4⟩, i5, ⟨i6, i7⟩, i8, i9⟩ hK
    subst hT
    have q1 : w.heap.size + 1 < W.drew.heap.size := by show w.heap.size + 1 < W.heap.size; omega
    have q2 : w3.heap.size < W.drew.heap.size := by show w3.heap.size < W.heap.size; omega
    have q4 : xs.length ≤ 9223372036854775807 := by omega
    have q5 : D ≠ w.heap.size + 1 := by omega
    have q6 : w3.heap.size + 1 < W.drew.heap.size := by show w3.heap.size + 1 < W.heap.size; omega
    have q7 : w.heap.size + 1 < w3.heap.size := by omega
    have q8 : w.heap.size ≤ D := by omega
    have hw := wrapm hm
    have hw' := wrapm' hm
    have hbq : ((xs.length : Int) == (xs.length : Int)) = true := by simp
    have hmin : (if xs.length < m then (xs.length : Int) else (m : Int)) = (xs.length : Int) := minm i1
    have hDW : D < W.heap.size := (Array.getElem?_eq_some_iff.1 hK).1
    have E0 : ER W.drew.heap.size W.drew A es := ((HE.out.below i9).drew).mono i9.size
    have X0 : ER w3.heap.size W.drew Aw xs := i8.drew
    have j1 : W.drew.cell? ⟨w.heap.size, 0, none⟩ = some (.int .u8 (m : Int)) := i2
    have j2 : W.drew.cell? ⟨w.heap.size + 1, 0, none⟩ = some (.bool false) := i3
    have j3 : W.drew.frozen? ⟨w.heap.size + 1, 0, none⟩ = false := i4
    have j4 : W.drew.cell? ⟨w3.heap.size, 0, none⟩ = some (.slice Aw xs.length cw) := i5
    have j5 : W.drew.cell? ⟨w3.heap.size + 1, 0, none⟩ = some (.int .i64 (xs.length : Int)) := i6
    have hE0 := Lib.hid E0
    have hX0 := Lib.hid X0
    clear E0 X0 i8
    gi_wp2
    refine (show Code.wpIn Fence.wide _ _ _ _ _ _ from wpIn_wide.2 ?_)
    apply cut_d (d := [{ target := .collected D, args := #[] }]) (p := .pointer (some ⟨w.heap.size + 1, 0, none⟩)) (S := Fin w D)
    · clear WK SM RE AG AL NF HB0 HB2 HB3 HBW hbW t0 t1 t2 t3 t4 t5 t6 hEw hb2 hb3
      go_region_held3 (fun w' => w'.cell? ⟨w.heap.size, 0, none⟩ = some (.int .u8 (m : Int)) ∧ w'.cell? ⟨w3.heap.size, 0, none⟩ = some (.slice Aw xs.length cw) ∧ w'.cell? ⟨w3.heap.size + 1, 0, none⟩ = some (.int .i64 (xs.length : Int)) ∧ w3.heap.size + 1 < w'.heap.size ∧ w.heap.size + 1 < w3.heap.size) (first | (with_reducible exact sg_keep (by assumption) hb5) | (with_reducible exact sg_set (by assumption) _) | (with_reducible exact sg_set (sg_drewN (by assumption) _) _) | (with_reducible exact sg_drewN (by assumption) _) | exact ⟨j1, j4, j5, q6, q7⟩)
      (first
      | (go_at_call 17; ((with_reducible refine (SE.out _ hE0.out).mono ?_); rintro e5 w5 ⟨v5, rfl, hO⟩; obtain ⟨A5, c5, rfl, h51, h52, hE5⟩ := ER.of_own hO; have hb5 := hO.bel; have l1 := (hb5.cell (p := ⟨w.heap.size + 1, 0, none⟩) q1).trans j2; have l2 := (hb5.frozen (p := ⟨w.heap.size + 1, 0, none⟩) q1).trans j3; have l3 := (hb5.cell (p := ⟨w3.heap.size, 0, none⟩) q2).trans j4; have SA5 := SA.out (A5, Aw, c5, cw) w5 (hE5.reads q4) h51 ((hX0.out.below (hb5.mono (Nat.le_of_lt q2))).reads q4) hcw; dsimp only at SA5; have SA6 := Lib.hid SA5; clear SA5))
      | (go_at_call 16; ((with_reducible refine SA6.out.mono ?_); rintro e6 w6 ⟨rfl, hd6⟩; obtain ⟨nd6, rfl⟩ := hd6.out; have hS := Fin.of nd6 i9 hb5 hK q5 l1)))
      all_goals exact ⟨rfl, rfl, hS⟩
    rintro T u1 hT4 ⟨hS1, hS2, hS3⟩
    gi_wp2
    have hc5 := cell_kept hS1 (grownBy_putObj' u1 D (.deferred none)) (fun r e => by cases e; exact ⟨_, hS2, rfl⟩)
    refine ⟨by simp, .inl ⟨_, _, rfl, run_takeDeferred hS2, ?_⟩⟩
    refine ⟨.bool true, ?_, rfl, hS3.trans (belowK_b (w := w) (Nat.le_refl _) _ D _ _ q8 hS2 rfl rfl)⟩
    simp [results, Try.f6, go_sem, hT4, hc5]
  case stop =>
    rintro D c k W hD hk ⟨⟨rfl, hks⟩, ⟨i1, iz, i2⟩, ⟨i3, i4⟩, i5, ⟨i6, i7⟩, i8, i9⟩ hK
    subst hT
    have q1 : w.heap.size + 1 < W.drew.heap.size := by show w.heap.size + 1 < W.heap.size; omega
    have q2 : w3.heap.size < W.drew.heap.size := by show w3.heap.size < W.heap.size; omega
    have q4 : xs.length ≤ 9223372036854775807 := by omega
    have q5 : D ≠ w.heap.size + 1 := by omega
    have q6 : w3.heap.size + 1 < W.drew.heap.size := by show w3.heap.size + 1 < W.heap.size; omega
    have q7 : w.heap.size + 1 < w3.heap.size := by omega
    have q8 : w.heap.size ≤ D := by omega
    have hw := wrapm hm
    have hw' := wrapm' hm
    have hbq : ((m : Int) == (m : Int)) = true := by simp
    have hmin : ¬ (xs.length < m) := Nat.not_lt.2 i1
    have hDW : D < W.heap.size := (Array.getElem?_eq_some_iff.1 hK).1
    have E0 : ER W.drew.heap.size W.drew A es := ((HE.out.below i9).drew).mono i9.size
    have X0 : ER w3.heap.size W.drew Aw xs := i8.drew
    have j1 : W.drew.cell? ⟨w.heap.size, 0, none⟩ = some (.int .u8 (m : Int)) := i2
    have j2 : W.drew.cell? ⟨w.heap.size + 1, 0, none⟩ = some (.bool false) := i3
    have j3 : W.drew.frozen? ⟨w.heap.size + 1, 0, none⟩ = false := i4
    have j4 : W.drew.cell? ⟨w3.heap.size, 0, none⟩ = some (.slice Aw xs.length cw) := i5
    have j5 : W.drew.cell? ⟨w3.heap.size + 1, 0, none⟩ = some (.int .i64 (m : Int)) := i6
    have hE0 := Lib.hid E0
    have hX0 := Lib.hid X0
    clear E0 X0 i8
    gi_wp2
    refine (show Code.wpIn Fence.wide _ _ _ _ _ _ from wpIn_wide.2 ?_)
    apply cut_d (d := [{ target := .collected D, args := #[] }]) (p := .pointer (some ⟨w.heap.size + 1, 0, none⟩)) (S := Fin w D)
    · clear WK SM RE AG AL NF HB0 HB2 HB3 HBW hbW t0 t1 t2 t3 t4 t5 t6 hEw hb2 hb3
      go_region_held3 (fun w' => w'.cell? ⟨w.heap.size, 0, none⟩ = some (.int .u8 (m : Int)) ∧ w'.cell? ⟨w3.heap.size, 0, none⟩ = some (.slice Aw xs.length cw) ∧ w'.cell? ⟨w3.heap.size + 1, 0, none⟩ = some (.int .i64 (m : Int)) ∧ w3.heap.size + 1 < w'.heap.size ∧ w.heap.size + 1 < w3.heap.size) (first | (with_reducible exact sg_keep (by assumption) hb5) | (with_reducible exact sg_set (by assumption) _) | (with_reducible exact sg_set (sg_drewN (by assumption) _) _) | (with_reducible exact sg_drewN (by assumption) _) | exact ⟨j1, j4, j5, q6, q7⟩)
      (first
      | (go_at_call 17; ((with_reducible refine (SE.out _ hE0.out).mono ?_); rintro e5 w5 ⟨v5, rfl, hO⟩; obtain ⟨A5, c5, rfl, h51, h52, hE5⟩ := ER.of_own hO; have hb5 := hO.bel; have l1 := (hb5.cell (p := ⟨w.heap.size + 1, 0, none⟩) q1).trans j2; have l2 := (hb5.frozen (p := ⟨w.heap.size + 1, 0, none⟩) q1).trans j3; have l3 := (hb5.cell (p := ⟨w3.heap.size, 0, none⟩) q2).trans j4; have SA5 := SA.out (A5, Aw, c5, cw) w5 (hE5.reads q4) h51 ((hX0.out.below (hb5.mono (Nat.le_of_lt q2))).reads q4) hcw; dsimp only at SA5; have SA6 := Lib.hid SA5; clear SA5))
      | (go_at_call 16; ((with_reducible refine SA6.out.mono ?_); rintro e6 w6 ⟨rfl, hd6⟩; obtain ⟨nd6, rfl⟩ := hd6.out; have hS := Fin.of nd6 i9 hb5 hK q5 l1)))
      all_goals exact ⟨rfl, rfl, hS⟩
    rintro T u1 hT4 ⟨hS1, hS2, hS3⟩
    gi_wp2
    have hc5 := cell_kept hS1 (grownBy_putObj' u1 D (.deferred none)) (fun r e => by cases e; exact ⟨_, hS2, rfl⟩)
    refine ⟨by simp, .inl ⟨_, _, rfl, run_takeDeferred hS2, ?_⟩⟩
    refine ⟨.bool true, ?_, rfl, hS3.trans (belowK_b (w := w) (Nat.le_refl _) _ D _ _ q8 hS2 rfl rfl)⟩
    simp [results, Try.f6, go_sem, hT4, hc5]
end Go.Proofs.Ytdepcbgjoegkkaa.SnapE
